/- PolyRests: the whole card, with no condition. -/
import Derived.Test.YtdojbabpnaifoaaGreatDoorQ3
import Derived.Test.YtdojbabpnaifoaaGreatDoorQ4
import Derived.Test.YtdojbabpnaifoaaGreatDoorProg
import Derived.Test.YtdojbabpnaifoaaGreatDoorQ5
import Derived.WalkKit
set_option linter.all false
set_option linter.unusedSimpArgs false
set_option linter.unusedVariables false
set_option maxRecDepth 100000
section
namespace Go.Proofs.YtdojbabpnaifoaaGreatDoor
open Go Go.Cm Go.Proofs
def p9 (B:aj):Tab:={types:= [(3,(.int .i64)),(22,(.slice .str)),(46, .str)],elems:= [],cons:= [],hint:= [],N:=13,base:=B}
theorem zu {B:aj} (hB:aA B):aF Tryz.prog (p9 B):=⟨⟨tc ty3 (tc fY (tc ma (ae))),af,by simp only [p9,ioB];omega⟩,bG rfl,by kernel_rfl⟩
def we:Con:=fun l os=>match l,os with
 | [.z (.slice .str) p, .z (.int .i64) i], []=>some (GL QK p∧0≤i, [.z .str (bl (cf (nl p) i.toNat))], [])
 |_,_=>none
theorem Gc {B:aj} (hB:aA B):Valid B Tryz.prog 63 we:=by
 refine ab (zu hB).tab Tryz.func63 rfl rfl rfl ?_
 intro args os C rs os' hc hC
 unfold we at hc
 split at hc
 case h_2=>cases hc
 rename_i p i
 cases hc
 refine v_h (zu hB) fun X hP hT hr hG=> ?_
 have hU:=p9.eq_1
 unfold p9 at hT
 have hX:=Bool.not_true
 simp only [Tryz.f63,aB,al,ioB]
 obtain ⟨hp,hi⟩:=hC
 obtain ⟨n,rfl⟩:=Int.eq_ofNat_of_zero_le hi
 rw [Int.toNat_natCast]
 refine s_g hG ?_
 refine ak ?_
 refine s_g hG ?_
 refine ao ?_ ?_
 ·intro hb0
  try simp only [bt] at hb0
  refine s_q hG ?_ ?_
  ·try simp only [ba]
   exact ⟨by omega,hb0⟩
  refine ax ?_
  refine ay ?_
  refine q_e [] ?_
  exact mh hp (by omega)
 ·intro hb0
  try simp only [bf] at hb0
  refine ap ?_
  refine ah ?_
  refine s_g hG ?_
  refine ax ?_
  refine q_e [] ?_
  exact IO (by omega)
def qa (B:aj):Tab:={types:= [(3,(.int .i64)),(22,(.slice .str)),(46, .str)],elems:= [],cons:= [],hint:= [],N:=21,base:=B}
theorem zv {B:aj} (hB:aA B):aF Tryz.prog (qa B):=⟨⟨tc ty3 (tc fY (tc ma (ae))),af,by simp only [qa,ioB];omega⟩,bG rfl,by kernel_rfl⟩
def iv:Con:=fun l os=>match l,os with
 | [.z (.slice .str) p], []=>some (GL QK p∧p.length≤1000000000, [.z (.slice .str) (txP (aP (nl p)))], [])
 |_,_=>none
theorem jh {B:aj} (hB:aA B):Valid B Tryz.prog 64 iv:=by
 refine ab (zv hB).tab Tryz.func64 rfl rfl rfl ?_
 intro args os C rs os' hc hC
 unfold iv at hc
 split at hc
 case h_2=>cases hc
 rename_i p
 cases hc
 refine v_h (zv hB) fun X hP hT hr hG=> ?_
 have hU:=qa.eq_1
 unfold qa at hT
 have hX:=Bool.not_true
 simp only [Tryz.f64,aB,al,ioB]
 obtain ⟨l0,rfl,hl0⟩:=hC.1.ex
 have hn:=hC.2
 rw [bT] at hn
 rw [jW]
 refine s_g hG ?_
 refine ak ?_
 refine aq ?_
 refine bn (fun (z:List Rat)=>(⟨[(0, .l (.z (.slice .str) (txP z))),(2, .l (.val (.slice none 0 0)))], []⟩:aa)) (fun z=>z.length≤l0.length∧(∀ x∈z,lq x≤QK)∧aP z=aP l0) (fun z=>z.length) l0 ?_ ?_ ?_
 ·simp only [ml0,ml1,Nat.reduceLT,Nat.reduceEqDiff,Nat.reduceAdd,Nat.reduceMul,Nat.reduceSub,Nat.reduceLeDiff,Nat.reduceBEq,Nat.reduceBNe,reduceIte,reduceDIte,reduceCtorEq]
 ·exact ⟨Nat.le_refl _,hl0,rfl⟩
 ·rintro l ⟨g1,g2,g3⟩
  try dsimp only at g1 g2 g3
  refine ak ?_
  refine s_q hG ?_ ?_
  ·try simp only [ba]
   exact ⟨id,id,fun h=>A4 (l:=l) (by omega) h,id⟩
  refine ao ?_ ?_
  ·intro hb0
   try simp only [bt] at hb0
   have ht:=KL (l:=l) (by omega) hb0.1 hb0.2
   obtain ⟨n1,n2,n3,n4,n5⟩:=A5 (by omega) g1 g2 g3 ht
   refine ap ?_
   refine ah ?_
   refine aq ?_
   refine ag hG ?_ ?_
   ·try simp only [ba]
    rw [bT,b7 (by omega)]
    omega
   refine aN ?_
   show ∃ z,_
   refine q_l ?_
   exact ⟨l.dropLast,n1,n2,n3,n4,n5⟩
  ·intro hb0
   try simp only [bf] at hb0
   have ht:=KM (l:=l) (by omega) hb0
   refine bc ?_
   refine aC ?_
   refine av ?_
   refine au ?_
   refine ah ?_
   refine s_g hG ?_
   refine ax ?_
   refine q_e [] ?_
   rw [← g3,ht]
def qb (B:aj):Tab:={types:= [(3,(.int .i64)),(22,(.slice .str)),(46, .str)],elems:= [(22,46)],cons:= [(62,DA),(63,we),(64,iv)],hint:= [27],N:=31,base:=B}
theorem zw {B:aj} (hB:aA B):aF Tryz.prog (qb B):=⟨⟨tc ty3 (tc fY (tc ma (ae))),aQ (by kernel_rfl) (af),by simp only [qb,ioB];omega⟩,aD (cc Tryz.func62 (Fw hB) (cc Tryz.func63 (Gc hB) (cc Tryz.func64 (jh hB) (aw)))),by kernel_rfl⟩
def wg:Con:=fun l os=>match l,os with
 | [.z (.slice .str) p, .z (.slice .str) q], []=>some (GL QK2 p∧GL QK2 q∧p.length≤1000000∧q.length≤1000000, [.z (.slice .str) (txP (bC (· + ·) (nl p) (nl q)))], [])
 |_,_=>none
theorem Gd {B:aj} (hB:aA B):Valid B Tryz.prog 20 wg:=by
 refine ab (zw hB).tab Tryz.func20 rfl rfl rfl ?_
 intro args os C rs os' hc hC
 unfold wg at hc
 split at hc
 case h_2=>cases hc
 rename_i p q
 cases hc
 refine v_h (zw hB) fun X hP hT hr hG=> ?_
 have hU:=qb.eq_1
 unfold qb at hT
 have hX:=ai @DA.eq_1<|ai @we.eq_1<| @iv.eq_1
 simp only [Tryz.f20,aB,al,ioB]
 obtain ⟨hp,hq,hl1,hl2⟩:=hC
 refine s_g hG ?_
 refine s_g hG ?_
 refine ak ?_
 refine s_g hG ?_
 refine aq ?_
 refine bn (fun (z:Nat)=>(⟨[(0, .l (.z (.slice .str) p)),(1, .l (.z (.slice .str) q)),(4, .l (.val (.slice none 0 0))),(5, .l (.ownS 28)),(6, .l (.z (.int .i64) (z:Int)))], [(28, .arr .str 46 (txP (bF (· + ·) (nl p) (nl q) z)))]⟩:aa)) (fun z=>z≤max p.length q.length) (fun z=>max p.length q.length-z) 0 ?_ ?_ ?_
 ·refine q_l ?_
  exact ⟨rfl,by unfold ioB;omega,rfl⟩
 ·omega
 ·rintro k g1
  try dsimp only at g1
  refine ak ?_
  refine s_g hG ?_
  refine ao ?_ ?_
  ·intro hb0
   have hk:=MO hb0
   refine ap ?_
   refine ah ?_
   refine ak ?_
   refine aq ?_
   refine ag hG ?_ ?_
   ·try simp only [ba]
    exact Ba hp hq (by omega)
   refine aN ?_
   refine ah ?_
   refine ag hG ?_ ?_
   ·first|trivial|omega|(simp;done)|(simp;omega)
   show ∃ z,_
   refine q_l ?_
   exact A6 (by omega) (by omega)
  ·intro hb0
   have hk:=MP hb0
   refine bc ?_
   refine aC ?_
   refine av ?_
   refine au ?_
   refine ah ?_
   refine s_q hG ?_ ?_
   ·try simp only [ba]
    exact ⟨Fk hp hq k,by rw [bT,d7];omega⟩
   refine ax ?_
   refine q_e [] ?_
   exact IP g1 hk
def qc (B:aj):Tab:={types:= [(3,(.int .i64)),(22,(.slice .str)),(46, .str)],elems:= [(22,46)],cons:= [(64,iv),(84,DB)],hint:= [20],N:=24,base:=B}
theorem zx {B:aj} (hB:aA B):aF Tryz.prog (qc B):=⟨⟨tc ty3 (tc fY (tc ma (ae))),aQ (by kernel_rfl) (af),by simp only [qc,ioB];omega⟩,aD (cc Tryz.func64 (jh hB) (cc Tryz.func84 (Fx hB) (aw))),by kernel_rfl⟩
def qd:Con:=fun l os=>match l,os with
 | [.z .str c, .z (.slice .str) p], []=>some (GQ QK2 c∧GL QK2 p∧p.length≤1000000, [.z (.slice .str) (txP (eI (bw c) (nl p)))], [])
 |_,_=>none
theorem Ge {B:aj} (hB:aA B):Valid B Tryz.prog 65 qd:=by
 refine ab (zx hB).tab Tryz.func65 rfl rfl rfl ?_
 intro args os C rs os' hc hC
 unfold qd at hc
 split at hc
 case h_2=>cases hc
 rename_i c p
 cases hc
 refine v_h (zx hB) fun X hP hT hr hG=> ?_
 have hU:=qc.eq_1
 unfold qc at hT
 have hX:=ai @DB.eq_1<| @iv.eq_1
 simp only [Tryz.f65,aB,al,ioB]
 obtain ⟨hc,hp,hl1⟩:=hC
 refine s_g hG ?_
 refine s_g hG ?_
 refine ak ?_
 refine s_g hG ?_
 refine aq ?_
 refine bn (fun (z:Nat)=>(⟨[(0, .l (.z .str c)),(1, .l (.z (.slice .str) p)),(4, .l (.val (.slice none 0 0))),(5, .l (.ownS 21)),(6, .l (.z (.int .i64) (z:Int)))], [(21, .arr .str 46 (txP (((nl p).take z).map fun x=>bw c*x)))]⟩:aa)) (fun z=>z≤p.length) (fun z=>p.length-z) 0 ?_ ?_ ?_
 ·refine q_l ?_
  exact ⟨rfl,by unfold ioB;omega,rfl⟩
 ·omega
 ·rintro k g1
  try dsimp only at g1
  refine ak ?_
  refine s_g hG ?_
  refine ao ?_ ?_
  ·intro hb0
   try simp only [bt] at hb0
   have hk:k<p.length:=by have h9:(k:Int)<(p.length:Int):=hb0;omega
   refine ap ?_
   refine ah ?_
   refine ak ?_
   refine aq ?_
   refine ag hG ?_ ?_
   ·try simp only [ba]
    exact xZ hc hp hl1 hk
   refine aN ?_
   refine ah ?_
   refine ag hG ?_ ?_
   ·first|trivial|omega|(simp;done)|(simp;omega)
   show ∃ z,_
   refine q_l ?_
   exact xV hp hk hl1
  ·intro hb0
   try simp only [bf] at hb0
   have hk: ¬k<p.length:=by have h9: ¬ (k:Int)<(p.length:Int):=hb0;omega
   refine bc ?_
   refine aC ?_
   refine av ?_
   refine au ?_
   refine ah ?_
   refine s_q hG ?_ ?_
   ·try simp only [ba]
    exact ⟨A7 hc hp k,by rw [bT,List.length_map,List.length_take,iq];omega⟩
   refine ax ?_
   refine q_e [] ?_
   exact Fl hk
def qe (B:aj):Tab:={types:= [(3,(.int .i64)),(22,(.slice .str))],elems:= [(22,46)],cons:= [(64,iv)],hint:= [13],N:=19,base:=B}
theorem zy {B:aj} (hB:aA B):aF Tryz.prog (qe B):=⟨⟨tc ty3 (tc fY (ae)),aQ (by kernel_rfl) (af),by simp only [qe,ioB];omega⟩,aD (cc Tryz.func64 (jh hB) (aw)),by kernel_rfl⟩
def qf:Con:=fun l os=>match l,os with
 | [.z (.slice .str) p, .z (.int .i64) n], []=>some (GL QK p∧0≤n∧n≤1000000∧p.length≤1000000, [.z (.slice .str) (txP (gK n.toNat (nl p)))], [])
 |_,_=>none
theorem Gf {B:aj} (hB:aA B):Valid B Tryz.prog 66 qf:=by
 refine ab (zy hB).tab Tryz.func66 rfl rfl rfl ?_
 intro args os C rs os' hc hC
 unfold qf at hc
 split at hc
 case h_2=>cases hc
 rename_i p n
 cases hc
 refine v_h (zy hB) fun X hP hT hr hG=> ?_
 have hU:=qe.eq_1
 unfold qe at hT
 have hX:= @iv.eq_1
 simp only [Tryz.f66,aB,al,ioB]
 obtain ⟨hp,hn1,hn2,hl1⟩:=hC
 obtain ⟨n,rfl⟩:=Int.eq_ofNat_of_zero_le hn1
 rw [Int.toNat_natCast]
 have hn3:n≤1000000:=by have h9:(n:Int)≤1000000:=hn2;omega
 refine s_g hG ?_
 refine s_g hG ?_
 refine ak ?_
 refine s_g hG ?_
 refine aq ?_
 refine bn (fun (z:Nat)=>(⟨[(0, .l (.z (.slice .str) p)),(1, .l (.z (.int .i64) (n:Int))),(4, .l (.val (.slice none 0 0))),(5, .l (.ownS 14)),(6, .l (.z (.int .i64) (z:Int)))], [(14, .arr .str 46 (List.replicate z [48]))]⟩:aa)) (fun z=>z≤n) (fun z=>n-z) 0 ?_ ?_ ?_
 ·refine q_l ?_
  exact ⟨rfl,by unfold ioB;omega,rfl⟩
 ·omega
 ·rintro k g1
  try dsimp only at g1
  refine ak ?_
  refine s_g hG ?_
  refine ao ?_ ?_
  ·intro hb0
   try simp only [bt] at hb0
   refine ap ?_
   refine ah ?_
   refine ak ?_
   refine aq ?_
   refine ag hG ?_ ?_
   ·try simp only [ba]
    exact rW (by rw [List.length_replicate];omega)
   refine aN ?_
   refine ah ?_
   refine ag hG ?_ ?_
   ·first|trivial|omega|(simp;done)|(simp;omega)
   show ∃ z,_
   refine q_l ?_
   exact ⟨k+1,wi (by omega) (by omega),IQ k,by omega,by omega⟩
  ·intro hb0
   try simp only [bf] at hb0
   obtain rfl:k=n:=by have h9: ¬ (k:Int)<(n:Int):=hb0;omega
   refine bc ?_
   refine aC ?_
   refine av ?_
   refine au ?_
   refine ah ?_
   refine s_q hG ?_ ?_
   ·try simp only [ba]
    exact ⟨rW (by rw [List.length_replicate];omega),A8 hp k,by rw [List.length_append,List.length_replicate];omega⟩
   refine ax ?_
   refine q_e [] ?_
   exact Fn
def qg (B:aj):Tab:={types:= [(3,(.int .i64)),(22,(.slice .str)),(46, .str)],elems:= [],cons:= [(20,wg),(65,qd),(66,qf)],hint:= [],N:=24,base:=B}
theorem zz {B:aj} (hB:aA B):aF Tryz.prog (qg B):=⟨⟨tc ty3 (tc fY (tc ma (ae))),af,by simp only [qg,ioB];omega⟩,aD (cc Tryz.func20 (Gd hB) (cc Tryz.func65 (Ge hB) (cc Tryz.func66 (Gf hB) (aw)))),by kernel_rfl⟩
def wh:Con:=fun l os=>match l,os with
 | [.z (.slice .str) p, .z (.slice .str) q], []=>some (IW p q, [.z (.slice .str) (txP (en (nl p) (nl q) p.length))], [])
 |_,_=>none
theorem Gg {B:aj} (hB:aA B):Valid B Tryz.prog 22 wh:=by
 refine ab (zz hB).tab Tryz.func22 rfl rfl rfl ?_
 intro args os C rs os' hc hC
 unfold wh at hc
 split at hc
 case h_2=>cases hc
 rename_i p q
 cases hc
 refine v_h (zz hB) fun X hP hT hr hG=> ?_
 have hU:=qg.eq_1
 unfold qg at hT
 have hX:=ai @wg.eq_1<|ai @qd.eq_1<| @qf.eq_1
 simp only [Tryz.f22,aB,al,ioB]
 have hl1:=hC.2.2.1
 refine s_g hG ?_
 refine s_g hG ?_
 refine ak ?_
 refine s_g hG ?_
 refine aq ?_
 refine bn (fun (z:Nat)=>(⟨[(0, .l (.z (.slice .str) p)),(1, .l (.z (.slice .str) q)),(4, .l (.val (.slice none 0 0))),(5, .l (.z (.slice .str) (txP (en (nl p) (nl q) z)))),(6, .l (.z (.int .i64) (z:Int)))], []⟩:aa)) (fun z=>z≤p.length) (fun z=>p.length-z) 0 ?_ ?_ ?_
 ·refine q_l ?_
  exact ⟨rfl,rfl⟩
 ·omega
 ·rintro k g1
  try dsimp only at g1
  refine ak ?_
  refine s_g hG ?_
  refine ao ?_ ?_
  ·intro hb0
   try simp only [bt] at hb0
   have hk:k<p.length:=by have h9:(k:Int)<(p.length:Int):=hb0;omega
   refine ap ?_
   refine ah ?_
   refine ak ?_
   refine aq ?_
   refine ag hG ?_ ?_
   ·try simp only [ba]
    exact ⟨⟨by omega,hb0⟩,Fo hC hk⟩
   refine aN ?_
   refine ah ?_
   refine ag hG ?_ ?_
   ·first|trivial|omega|(simp;done)|(simp;omega)
   show ∃ z,_
   refine q_l ?_
   obtain ⟨w,w1,w2,w3⟩:=A9 hC hk
   exact ⟨w,w2,w1,w3⟩
  ·intro hb0
   try simp only [bf] at hb0
   have hk: ¬k<p.length:=by have h9: ¬ (k:Int)<(p.length:Int):=hb0;omega
   refine bc ?_
   refine aC ?_
   refine av ?_
   refine au ?_
   refine ah ?_
   refine s_g hG ?_
   refine ax ?_
   refine q_e [] ?_
   exact IX g1 hk
end Go.Proofs.YtdojbabpnaifoaaGreatDoor
end
section
namespace Go.Proofs.YtdojbabpnaifoaaGreatDoor
open Go Go.Cm Go.Proofs
def qh (B:aj):Tab:={types:= [(3,(.int .i64)),(5,(.int .u8)),(22,(.slice .str)),(23,(.slice (.int .i8))),(25,(.st (.pair (.slice (.int .i8)) (.pair (.int .u8) (.slice (.int .i8)))))),(71,(.int .i8))],elems:= [(22,46)],cons:= [(22,wh),(64,iv),(85,Lf)],hint:= [],N:=59,base:=B}
theorem zA {B:aj} (hB:aA B):aF Tryz.prog (qh B):=⟨⟨tc ty3 (tc ty5 (tc fY (tc M0 (tc ML (tc M1 (ae)))))),aQ (by kernel_rfl) (af),by simp only [qh,ioB];omega⟩,aD (cc Tryz.func22 (Gg hB) (cc Tryz.func64 (jh hB) (cc Tryz.func85 (Fv hB) (aw)))),by kernel_rfl⟩
def qk:Con:=fun l os=>match l,os with
 | [.z (.st (.pair (.slice (.int .i8)) (.pair (.int .u8) (.slice (.int .i8))))) d], []=>some (jX d, [.z (.slice .str) (txP (mi d))], [])
 |_,_=>none
theorem Gh {B:aj} (hB:aA B):Valid B Tryz.prog 40 qk:=by
 refine ab (zA hB).tab Tryz.func40 rfl rfl rfl ?_
 intro args os C rs os' hc hC
 unfold qk at hc
 split at hc
 case h_2=>cases hc
 rename_i d
 cases hc
 refine v_h (zA hB) fun X hP hT hr hG=> ?_
 have hU:=qh.eq_1
 unfold qh at hT
 have hX:=ai @wh.eq_1<|ai @Lf.eq_1<| @iv.eq_1
 simp only [Tryz.f40,aB,al,ioB]
 have hD:=hC
 refine s_g hG ?_
 refine s_g hG ?_
 refine ak ?_
 refine s_g hG ?_
 refine aq ?_
 refine bn (fun (z:Nat)=>(⟨[(1, .l (.z (.ptr (.st (.pair (.slice (.int .i8)) (.pair (.int .u8) (.slice (.int .i8)))))) d)),(2, .l (.val (.slice none 0 0))),(3, .l (.ownS 32)),(4, .l (.z (.int .i64) (z:Int)))], [(32, .arr .str 46 (txP (gL d z)))]⟩:aa)) (fun z=>z≤d.1.length∧z≤5) (fun z=>5-z) 0 ?_ ?_ ?_
 ·refine q_l ?_
  exact ⟨rfl,by unfold ioB;omega,rfl⟩
 ·omega
 ·rintro k g1
  try dsimp only at g1
  refine ak ?_
  refine s_g hG ?_
  refine ao ?_ ?_
  ·intro hb0
   have hk:=Lv (n:=5) hb0
   refine ap ?_
   refine ah ?_
   refine ak ?_
   refine aq ?_
   refine vY 32 44 (by simp only [aa.toRow,LV.toRow,ioB,mx0,mx1,mx2,mx3,mx4,mx5,mx6,Nat.reduceLT,Nat.reduceEqDiff,Nat.reduceAdd,Nat.reduceMul,Nat.reduceSub,Nat.reduceLeDiff,Nat.reduceBEq,Nat.reduceBNe,reduceIte,reduceDIte,reduceCtorEq];rfl) ?_
   refine fW hG ?_ ?_
   ·try simp only [ba]
    exact Fr hD hk
   refine aN ?_
   refine ah ?_
   refine o6 32 1 (by simp only [aa.ofRow,LV.ofRow,ioB,List.set_cons_zero,List.set_cons_succ,List.append_nil,List.nil_append,List.cons_append,List.getElem?_cons_zero,List.getElem?_cons_succ,Option.getD_some,mx0,mx1,mx2,mx3,mx4,mx5,mx6,Nat.reduceLT,Nat.reduceEqDiff,Nat.reduceAdd,Nat.reduceMul,Nat.reduceSub,Nat.reduceLeDiff,Nat.reduceBEq,Nat.reduceBNe,reduceIte,reduceDIte,reduceCtorEq];rfl) ?_
   refine ag hG ?_ ?_
   ·first|trivial|omega|(simp;done)|(simp;omega)
   show ∃ z,_
   refine q_l ?_
   exact Fs hD hk
  ·intro hb0
   have hk:=Lw (n:=5) hb0
   refine bc ?_
   refine aC ?_
   refine av ?_
   refine au ?_
   refine ah ?_
   refine s_q hG ?_ ?_
   ·try simp only [ba]
    exact ⟨(CD hD k).1,Mf (CD hD k).2 g1⟩
   refine ak ?_
   refine s_g hG ?_
   refine aq ?_
   refine bn (fun (z:Nat)=>(⟨[(1, .l (.z (.ptr (.st (.pair (.slice (.int .i8)) (.pair (.int .u8) (.slice (.int .i8)))))) d)),(2, .l (.val (.slice none 0 0))),(3, .l (.z (.slice .str) (txP (kI d z)))),(5, .l (.z (.int .i64) (z:Int)))], []⟩:aa)) (fun z=>z≤d.2.2.length∧z≤4) (fun z=>4-z) 0 ?_ ?_ ?_
   ·refine q_l ?_
    exact ⟨Mi hk g1,rfl⟩
   ·omega
   ·rintro k2 g2
    try dsimp only at g2
    refine ak ?_
    refine s_g hG ?_
    refine ao ?_ ?_
    ·intro hb1
     have hk2:=Lv (n:=4) hb1
     refine ap ?_
     refine ah ?_
     refine ak ?_
     refine aq ?_
     refine ag hG ?_ ?_
     ·try simp only [ba]
      exact Fp hD hk2
     refine aN ?_
     refine ah ?_
     refine ag hG ?_ ?_
     ·first|trivial|omega|(simp;done)|(simp;omega)
     show ∃ z,_
     refine q_l ?_
     exact Fq hD hk2
    ·intro hb1
     have hk2:=Lw (n:=4) hb1
     refine bc ?_
     refine aC ?_
     refine av ?_
     refine au ?_
     refine ah ?_
     refine s_g hG ?_
     refine ax ?_
     refine q_e [] ?_
     exact Mh hk2 g2
end Go.Proofs.YtdojbabpnaifoaaGreatDoor
end
section
namespace Go.Proofs.YtdojbabpnaifoaaGreatDoor
open Go Go.Cm Go.Proofs
def ql (B:aj):Tab:={types:= [(3,(.int .i64)),(22,(.slice .str)),(25,(.st (.pair (.slice (.int .i8)) (.pair (.int .u8) (.slice (.int .i8)))))),(31,(.int .i64))],elems:= [],cons:= [(11,p8),(15,uu),(17,uw),(23,np),(28,j9),(40,qk),(41,Ga),(94,F9)],hint:= [],N:=105,base:=B}
theorem zB {B:aj} (hB:aA B):aF Tryz.prog (ql B):=⟨⟨tc ty3 (tc fY (tc ML (tc kH (ae)))),af,by simp only [ql,ioB];omega⟩,aD (cc Tryz.func11 (Gb hB) (cc Tryz.func15 (uv hB) (cc Tryz.func17 (ux hB) (cc Tryz.func23 (uy hB) (cc Tryz.func28 (na hB) (cc Tryz.func40 (Gh hB) (cc Tryz.func41 (uA hB) (cc Tryz.func94 (uz hB) (aw))))))))),by kernel_rfl⟩
def wj:Con:=fun l os=>match l,os with
 | [.z (.st (.pair (.slice (.int .i8)) (.pair (.int .u8) (.slice (.int .i8))))) d, .z (.st (.pair (.slice (.int .i8)) (.pair (.int .u8) (.slice (.int .i8))))) f], []=>some (jX d∧jX f, [.z .bool true], [])
 |_,_=>none
theorem Gi {B:aj} (hB:aA B):Valid B Tryz.prog 6 wj:=by
 refine ab (zB hB).tab Tryz.func6 rfl rfl rfl ?_
 intro args os C rs os' hc hC
 unfold wj at hc
 split at hc
 case h_2=>cases hc
 rename_i d f
 cases hc
 refine v_h (zB hB) fun X hP hT hr hG=> ?_
 have hU:=ql.eq_1
 unfold ql at hT
 have hX:=ai @qk.eq_1<|ai @Ga.eq_1<|ai @F9.eq_1<|ai @uu.eq_1<|ai @np.eq_1<|ai @uw.eq_1<|ai @j9.eq_1<|ai @p8.eq_1<| @List.append_eq.{0}
 simp only [Tryz.f6,aB,al,ioB]
 obtain ⟨hd,hf⟩:=hC
 have hp:=tO hd
 have hq:=tO hf
 have pp:=hp.pol (by decide) (by decide)
 have pq:=hq.pol (by decide) (by decide)
 refine s_g hG ?_
 refine ak ?_
 refine s_g hG ?_
 refine ao ?_ ?_
 ·intro hb0
  cases hb0
 ·intro hb0
  try simp only [bf] at hb0
  refine ap ?_
  refine ah ?_
  refine s_d hG ?_ ?_
  ·try simp only [ba]
   exact ⟨hd,hf⟩
  refine s_q hG ?_ ?_
  ·try simp only [ba]
   exact IK hp hq
  refine ak ?_
  refine s_g hG ?_
  refine ao ?_ ?_
  ·intro hb1
   have e0:txP (mi f)= []:=by rw [IL.1 (beq_iff_eq.1 hb1)];rfl
   obtain ⟨d0,d1,d2,d3⟩:=xU pp
   simp only [e0,d1,d2,d3]
   refine s_q hG ?_ ?_
   ·try simp only [ba]
    decide
   refine ax ?_
   refine ay ?_
   refine q_e [] ?_
   decide
  ·intro hb1
   have h0:mi f≠ []:=fun e=>(beq_eq_false_iff_ne.1 hb1) (IL.2 e)
   obtain ⟨s,r,m,ps,pr,pm,hlt,⟨d0,d1,d2,d3⟩,⟨m1,m2⟩,⟨t1,t2⟩,pt,⟨a1,a2⟩,u0,u1,u2,u3⟩:=nQ hp hq h0
   simp only [d1,d2,d3]
   refine ap ?_
   refine ah ?_
   refine s_q hG ?_ ?_
   ·try simp only [ba]
    exact vo pq ps
   simp only [m1,m2]
   refine s_q hG ?_ ?_
   ·try simp only [ba]
    exact vo pp pq
   simp only [t1,t2]
   refine s_q hG ?_ ?_
   ·try simp only [ba]
    exact u0
   simp only [u1,u2,u3]
   refine s_q hG ?_ ?_
   ·try simp only [ba]
    have hl:(txP r).length<(txP (mi f)).length:=by rw [bT,bT];exact hlt
    simp [hl,a1,a2,Cq pm pr,Ma pp]
   refine ax ?_
   refine q_e [] ?_
   have hl:(txP r).length<(txP (mi f)).length:=by rw [bT,bT];exact hlt
   simp [hl,a1,a2]
end Go.Proofs.YtdojbabpnaifoaaGreatDoor
end
section
namespace Go.Proofs.YtdojbabpnaifoaaGreatDoor.polyRests
open Go Go.Cm Go.Proofs Go.ChangeShapes Go.WideShapes Go.ChangeAt Go.RowKit Go.Deep Go.Joins
theorem own:ownKnob Tryz.prog.godebug=none:=by kernel_rfl
theorem M9:Tryz.f6.resultTypes= #[4]:=by kernel_rfl
theorem MZ:Tryz.prog.underlying 4=some .bool:=by kernel_rfl
def tys:List Ty:= [(.st (.pair (.slice (.int .i8)) (.pair (.int .u8) (.slice (.int .i8))))),(.st (.pair (.slice (.int .i8)) (.pair (.int .u8) (.slice (.int .i8)))))]
theorem reads:qS Tryz.prog tys Tryz.f6.params.toList=true:=by kernel_rfl
theorem spec:wQ Rows.polyRestsSpec tys.length:=⟨rfl,fun _ ds h=>match ds,h with| [a0,a1],_=>rfl⟩
abbrev vals:Array Value:= #[.agg #[.slice none 0 0, .int .u8 0, .slice none 0 0], .agg #[.slice none 0 0, .int .u8 0, .slice none 0 0]]
theorem met (os:Os):laidMet Tryz.prog Rows.polyRestsRow.laid ((rf os).forCall (fun _ _=>0) ⟨#[],vals, []⟩).memory:=
 laidMet_of_run3 8 (by kernel_rfl) (by kernel_rfl) (by kernel_rfl)
theorem witness (os:Os) {H:Type} (enc:TypeId×Value→H):∃ places,DataW.whole enc Tryz.prog ((rf os).forCall (fun _ _=>0) ⟨#[],vals, []⟩).memory Tryz.f6.params.toList Rows.polyRestsSpec.vars false vals.toList 8=some ([.agg [.nil, .lit (.int .u8 0), .nil], .agg [.nil, .lit (.int .u8 0), .nil]], [],places):=
 ⟨[],by kernel_rfl⟩
theorem Na {W:World} (h:laidMetH Tryz.prog Rows.polyRestsRow.laid W) (hs:W.ShapedOpen Tryz.prog):aA (kk W):=by
 have hL:laidMet Tryz.prog Rows.polyRestsRow.laid W:=h
 exact ⟨fun w hw=>J8 (laidMet.tail (laidMet.tail hL)) w hw,J9 hs⟩
theorem lifted (os:Os) (started:os.Started) (H:Type) (enc:TypeId×Value→H) (F:Stop.Interp):
  ReturnsInHanded {} Tryz.checked os 6 .any ((OpenSpec.ofChange Rows.polyRestsSpec).preRow enc Tryz.prog Tryz.f6 Rows.polyRestsRow.domain false Rows.polyRestsRow.laid) (((OpenSpec.ofChange Rows.polyRestsSpec).at F).post enc Tryz.prog Tryz.f6 false true false false):=by
 obtain ⟨places,hx⟩:=witness os enc
 refine returnsInHanded_of_row (C:=Tryz.checked) (s:=OpenSpec.ofChange Rows.polyRestsSpec) own started (by kernel_rfl) Tryz.func6
  (witness_row_at (enc:=enc) (C:=Tryz.checked) false (rf os) vals rfl (by kernel_rfl) (by kernel_rfl) (by kernel_rfl)
   (OpenSpec.preRow_of_cond 8 hx (by kernel_rfl) (fun k hk=>by cases hk) (by kernel_rfl) (met os))) ?_
 intro W base args ds gs before hval hW _ _ _ hL hSh _
 exact uM (ts:=tys) (con:=wj) reads M9 MZ spec (fun x h=>by obtain ⟨x0,x1,⟨⟩⟩:=x;obtain ⟨h0,h1, -⟩:=h;exact ⟨_,rfl,⟨CE h0,CE h1⟩⟩) (Gi (Na hL hSh)) hval hW
theorem said:Rows.PolyRestsSaid:=
 OpenClaim.holds_of_cond 6 Tryz.f6 rfl rfl rfl rfl rfl rfl rfl ⟨rfl,rfl,rfl,rfl,rfl⟩ rfl rfl rfl rfl rfl (by kernel_rfl) Tryz.func6 (by kernel_rfl)
  (of_decide_eq_true (by kernel_rfl)) (by unfold Func.isWrapper;first|(rw [if_pos (by decide+kernel)];kernel_rfl)|(rw [if_neg (by decide+kernel)];exact ⟨rfl,rfl⟩))
  (fun os started H enc _ F=>by rw [OpenClaim.pre_eq_preRow];exact lifted os started H enc F)
theorem plain (f:FuncId) (fn:Func) (hf:Tryz.pinned.checked.prog.funcNamed "croupier/croupierlaw04.PolyRests"=some f) (hfn:Tryz.pinned.checked.prog.funcs[f]? =some fn):
  true=Tryz.pinned.checked.prog.looks []∧∀ (j:Nat) t,fn.params[j]? =some t→Tryz.pinned.checked.prog.wantsStandIn t=false:=by
 obtain rfl:f=6:=Option.some.inj ((show Tryz.prog.funcNamed "croupier/croupierlaw04.PolyRests"=some 6 by kernel_rfl).symm.trans hf)|>.symm
 obtain rfl:fn=Tryz.f6:=(Option.some.inj (Tryz.func6.symm.trans hfn)).symm
 refine ⟨by kernel_rfl,fun j t ht=> ?_⟩
 have hall:Tryz.f6.params.toList.all (fun t=> !Tryz.prog.wantsStandIn t)=true:=by kernel_rfl
 have:=List.all_eq_true.1 hall t (by simpa using Array.mem_of_getElem? ht)
 exact (by simpa using this:Tryz.prog.wantsStandIn t=false)
theorem card:Rows.PolyRestsCardSaid:=
 Claim7.holds_tied_plain_at .later [] _ _ _ _ said (fun _ h=>by cases h) (by kernel_rfl) (fun _ h=>by cases h) polyRests_row_tie rfl ⟨rfl,rfl⟩ (by kernel_rfl) rfl plain (by kernel_rfl)
end Go.Proofs.YtdojbabpnaifoaaGreatDoor.polyRests
end

/- wG of the proof (part 11): what the rows' text needs of the texts that lead to it. -/
import Derived.Test.YtngphgeghfdjbaaGreatDoorMDj
set_option linter.unusedVariables false
set_option linter.unusedSimpArgs false
set_option linter.unusedSectionVars false
set_option maxHeartbeats 4000000
noncomputable section
set_option maxRecDepth 100000
namespace Go.Sl.Ev
open Go Go.Sl
section
variable {P:Program} {Φ:A3→Prop} {pr:wH}
theorem fo {nx n:Nat} {ρ:Pl} (hn:n≤100000):∀ {ps:List Nat} {args:CV} {vs:List Value} {E E1:Tr CV} {tmps:Array Value},KL nx ρ args vs→pk n ps args E=some E1→tmps.size=n→(∀ i x,E.get i=some x→∃ v,tmps[i]?=some v∧Kn nx ρ x v)→
 ps.length=vs.length∧((ps.zip vs).foldl (fun t (p:Nat×Value)=>t.setIfInBounds p.1 p.2) tmps).size=n∧∀ i x,E1.get i=some x→∃ v,((ps.zip vs).foldl (fun t (p:Nat×Value)=>t.setIfInBounds p.1 p.2) tmps)[i]?=some v∧Kn nx ρ x v:=by
 intro ps;induction ps with
 | nil =>
   intro args vs E E1 tmps hk hp hs he;cases args with
   | nil =>
     have hp':some E=some E1:=hp;cases hp';have:vs=[]:=hk.2;subst this;exact ⟨U,by simpa using hs,by simpa using he⟩
   | _=>exact absurd (show none=some E1 from hp) vL
 | cons p ps ih =>
   intro args vs E E1 tmps hk hp hs he;cases args with
   | cons a b =>
     have hp':(bif Nat.ble (Nat.succ p) n then pk n ps b (E.set (some a) uW p) else none)=some E1:=hp;rcases uN hp' with ⟨h1,h2⟩ | ⟨_,h2⟩
     · have hpn:p<n:=bK h1;obtain ⟨⟨b1,b2⟩,v,r,rfl,k1,k2⟩:=hk;obtain ⟨q1,q2,q3⟩:=ih (E:=E.set (some a) uW p) (tmps:=tmps.setIfInBounds p v) ⟨b2,k2⟩ h2 (by simpa using hs) (fun i x hx=>by
        rw [fE (some a) uW E p i (by rw [Rm];omega)] at hx;by_cases e:i=p
        · subst e;rw [aM rfl] at hx;cases hx;exact ⟨v,by simp [hs,hpn],b1,k1⟩
        rw [aE e] at hx;obtain ⟨u,g1,g2⟩:=he i x hx;exact ⟨u,by rw [jE (rM e)];exact g1,g2⟩)
       exact ⟨by simp [q1],by simpa using q2,by simpa using q3⟩
     · cases h2
   | _=>exact absurd (show none=some E1 from hp) vL
theorem NR {ρ:Pl} {w0:E5 Φ} {h:Tr CB} {nx t n4 stm:Nat} {w:World} {E4:Tr CV} {ps4:List Nat} {as4 body4:Code} {st:LoopState} {p:Option Code} (hm:Mem ρ w0 h nx w) (hlp:h.get t=some (.lp E4 n4 ps4 as4 body4 st p stm)) (hfit:Nat.ble (Nat.succ nx) uW=true) (c:Option Code) :
 ∃ w',(Instr.endRound (ρ t).1 c).run P w=.ok (.bool c.isNone) w'∧Nx ρ h nx w ρ (h.set (some (.lp E4 n4 ps4 as4 body4 (UY c) c nx)) uW t) (Nat.succ nx) w'∧Mem ρ w0 (h.set (some (.lp E4 n4 ps4 as4 body4 (UY c) c nx)) uW t) (Nat.succ nx) w':=by
 obtain ⟨_,_,_,o,ho,q,rfl,g1,g2,g3,g4,g5,g6,g7⟩:=hm.own t _ hlp;have hf:=vC hfit;have hlt:=(cK.1 ho).1;obtain ⟨m3,o3⟩:=hm.write (b':=.lp E4 n4 ps4 as4 body4 (UY c) c nx) (o:=.loop { q with state:=if c.isNone then .ready else .done,pending:=c }) (w':=w.putObj (ρ t).1 (.loop { q with state:=if c.isNone then .ready else .done,pending:=c })) uJ U hlp
  (xD w _ _) (gD hlt) ⟨_,U,by cases c <;> rfl,U,g3,g4,g5,g6,fun i x hx=>g7 i x hx⟩
 exact ⟨_,run_endRound c ho,⟨dL _,hf,dT _ _,o3⟩,m3⟩
theorem Se {ih:C5→B3} (H:∀ c,uP P Φ c (ih c)) (t:Nat) (args:CV) (h:Tr CB) (nx:Nat):uP P Φ (.round t args h nx) (step P pr ih (.round t args h nx)):=by
 show uP P Φ _ (match h.get t with
  | some (.lp E n ps asg body st _ _)=>bif CY st && (Ze asg && (Ze body && Nat.ble n 100000)) then
    (match pk n ps args E with
    | some E1=>match ih (.code asg n E1 h nx) with
      | .ok .normal E2 h2 nx2=>(match h2.get t with
        | some (.lp E0 n0 ps0 as0 body0 st0 p0 _)=>bif CY st0 && Nat.ble (Nat.succ nx2) uW then
          (match ih (.code body n E2 (h2.set (some (.lp E0 n0 ps0 as0 body0 .busy p0 nx2)) uW t) (Nat.succ nx2)) with
          | .ok x _ h3 nx3=>(match h3.get t with
            | some (.lp E4 n4 ps4 as4 body4 _ _ _)=>bif Nat.ble (Nat.succ nx3) uW then
              (match NP x with
              | some none=>.ret (.bool true) (h3.set (some (.lp E4 n4 ps4 as4 body4 .ready none nx3)) uW t) (Nat.succ nx3)
              | some (some c)=>.ret (.bool false) (h3.set (some (.lp E4 n4 ps4 as4 body4 .done (some c) nx3)) uW t) (Nat.succ nx3)
              | none=>.bad 46 []) else .bad 47 []
            | _=>.bad 48 [])
          | .ret _ _ _=>.bad 49 []
          | r=>r) else .bad 50 []
        | _=>.bad 54 [])
      | .ok _ _ _ _=>.bad 55 []
      | .ret _ _ _=>.bad 56 []
      | r=>r
    | none=>.bad 57 []) else .bad 58 []
  | _=>.bad 59 [])
 split
 · rename_i E n ps asg body st p stm hlp;refine uU (uP P Φ _) (fun hb=>?_) fun _=>trivial;simp only [aB] at hb;obtain ⟨hb1,hb2,hb3,hb4⟩:=hb;have hn:=vC hb4;split
   · rename_i E1 hps;have H1:=H (.code asg n E1 h nx);generalize ih (.code asg n E1 h nx)=q at H1;cases q with
     | bad=>trivial
     | ret _ _ _=>trivial
     | ok x E2 h2 nx2 =>
       cases x with
       | normal =>
         show uP P Φ _ (match h2.get t with
          | some (.lp E0 n0 ps0 as0 body0 st0 p0 _)=>bif CY st0 && Nat.ble (Nat.succ nx2) uW then
            (match ih (.code body n E2 (h2.set (some (.lp E0 n0 ps0 as0 body0 .busy p0 nx2)) uW t) (Nat.succ nx2)) with
            | .ok x _ h3 nx3=>(match h3.get t with
              | some (.lp E4 n4 ps4 as4 body4 _ _ _)=>bif Nat.ble (Nat.succ nx3) uW then
                (match NP x with
                | some none=>.ret (.bool true) (h3.set (some (.lp E4 n4 ps4 as4 body4 .ready none nx3)) uW t) (Nat.succ nx3)
                | some (some c)=>.ret (.bool false) (h3.set (some (.lp E4 n4 ps4 as4 body4 .done (some c) nx3)) uW t) (Nat.succ nx3)
                | none=>.bad 46 []) else .bad 47 []
              | _=>.bad 48 [])
            | .ret _ _ _=>.bad 49 []
            | r=>r) else .bad 50 []
          | _=>.bad 54 [])
         split
         · rename_i E0 n0 ps0 as0 body0 st0 p0 stm0 hlp0;refine uU (uP P Φ _) (fun hb=>?_) fun _=>trivial;rw [aB] at hb;obtain ⟨hb5,hb6⟩:=hb;have hf6:=vC hb6;have H2:=H (.code body n E2 (h2.set (some (.lp E0 n0 ps0 as0 body0 .busy p0 nx2)) uW t) (Nat.succ nx2));generalize ih (.code body n E2 (h2.set (some (.lp E0 n0 ps0 as0 body0 .busy p0 nx2)) uW t) (Nat.succ nx2))=q2 at H2;cases q2 with
           | bad=>trivial
           | ret _ _ _=>trivial
           | ok x3 E3 h3 nx3 =>
             show uP P Φ _ (match h3.get t with
              | some (.lp E4 n4 ps4 as4 body4 _ _ _)=>bif Nat.ble (Nat.succ nx3) uW then
                (match NP x3 with
                | some none=>.ret (.bool true) (h3.set (some (.lp E4 n4 ps4 as4 body4 .ready none nx3)) uW t) (Nat.succ nx3)
                | some (some c)=>.ret (.bool false) (h3.set (some (.lp E4 n4 ps4 as4 body4 .done (some c) nx3)) uW t) (Nat.succ nx3)
                | none=>.bad 46 []) else .bad 47 []
              | _=>.bad 48 [])
             split
             · rename_i E4 n4 ps4 as4 body4 st4 p4 stm4 hlp4;refine uU (uP P Φ _) (fun hb7=>?_) fun _=>trivial;have go:∀ (c:Option Code),NP x3=some c→∀ (ρ:Pl) (w0:E5 Φ) (w:World) (vs:List Value),Mem ρ w0 h nx w→KL nx ρ args vs→nx≤uW→
                ∃ f tmps assign body,(Instr.yield (ρ t).1 vs.toArray).run P w=.ok (.round (ρ t).1 f tmps assign body) w∧
                 RoundIn Fence.wide 0 P (ρ t).1 f tmps assign body w (fun e w'=>∃ u ρ',e=.returned u∧Nx ρ h nx w ρ' (h3.set (some (.lp E4 n4 ps4 as4 body4 (UY c) c nx3)) uW t) (Nat.succ nx3) w'∧Kn (Nat.succ nx3) ρ' (.bool c.isNone) u∧Mem ρ' w0 (h3.set (some (.lp E4 n4 ps4 as4 body4 (UY c) c nx3)) uW t) (Nat.succ nx3) w'):=by
                intro c hc ρ w00 w vs hm hk hf;obtain ⟨W0,ks0,G0,ok0,s0⟩:=w00;replace hm:=hm.base (s':=w.heap.size);obtain ⟨w0,hw0⟩:∃ w0:E5 Φ,w0=⟨W0,ks0,G0,ok0,w.heap.size⟩:=⟨_,U⟩
                rw [←hw0] at hm;obtain ⟨htn,_,_,o,ho,q,rfl,g1,g2,g3,g4,g5,g6,g7⟩:=hm.own t _ hlp;obtain ⟨z1,z2,z3⟩:=fo hn hk hps g6 g7;refine ⟨_,_,_,_,run_yield ho (by rw [g3];simp [z1]),?_⟩;rw [g4,g5,g3];have htm:(ps.toArray.zip vs.toArray).foldl (fun tmps (x:Nat×Value)=>tmps.setIfInBounds x.1 x.2) q.tmps=(ps.zip vs).foldl (fun t (p:Nat×Value)=>t.setIfInBounds p.1 p.2) q.tmps:=vL;refine roundIn_of_wpIn (F:=Fence.wide) (n:=0) I8 ?_;have hR:F1 ρ w0 n E1 h nx { tmps:=(ps.toArray.zip vs.toArray).foldl (fun tmps (x:Nat×Value)=>tmps.setIfInBounds x.1 x.2) q.tmps,defers:=[] } w:=by
                 rw [htm];exact ⟨[],⟨z2,z3⟩,U,hm,fun b hb=>(by cases hb),by rw [hw0];exact aG _⟩
                refine H1 (some (ρ t).1) ρ w0 _ w hR hf hn (.inr hb2) _ fun ρ2 a2 w2 e1 e2=>?_;have m2:=e2.mem;have e3:ρ2 t=ρ t:=e1.ext t htn;obtain ⟨_,_,_,o2,ho2,q2,rfl,j1,j2,j3,j4,j5,j6,j7⟩:=m2.own t _ hlp0;rw [e3] at ho2;have hlt:=(cK.1 ho2).1;refine ⟨_,run_beginRound ho2 (by rw [j1];cases st0 <;> first | rfl | cases hb5),?_⟩;obtain ⟨os,e2⟩:=e2;obtain ⟨m3,o3⟩:=e2.mem.write (b':=.lp E0 n0 ps0 as0 body0 .busy p0 nx2) (o:=.loop { q2 with state:=.busy }) (w':=w2.putObj (ρ t).1 (.loop { q2 with state:=.busy })) uJ U hlp0
                 (by rw [e3];exact xD w2 _ _) (by rw [e3];exact gD hlt) ⟨_,U,U,j2,j3,j4,j5,j6,fun i x hx=>j7 i x hx⟩
                have a4:Nx ρ2 h2 nx2 w2 ρ2 (h2.set (some (.lp E0 n0 ps0 as0 body0 .busy p0 nx2)) uW t) (Nat.succ nx2) (w2.putObj (ρ t).1 (.loop { q2 with state:=.busy })):=⟨dL _,hf6,dT _ _,o3⟩
                have hR2:F1 ρ2 w0 n E2 (h2.set (some (.lp E0 n0 ps0 as0 body0 .busy p0 nx2)) uW t) (Nat.succ nx2) a2 (w2.putObj (ρ t).1 (.loop { q2 with state:=.busy })):=⟨os,e2.slots.up (dL _) (dT _ _),e2.defers,m3,e2.mks,aP e2.ss a4.old.sz⟩
                refine H2 (some (ρ t).1) ρ2 w0 _ _ hR2 hf6 hn (.inr hb3) _ fun ρ3 a3 w3 f1 f2=>?_;have htn2:t<nx2:=bW htn e1.le;have e5:ρ3 t=ρ t:=(f1.ext t (Nat.lt_succ_of_lt htn2)).trans e3;obtain ⟨w4,k1,k2,k3⟩:=NR (P:=P) f2.mem hlp4 hb7 c;rw [e5] at k1;have hnx:=(((e1.trans hm a4).trans hm f1).trans hm k2)
                have fin:∃ v w',(Instr.endRound (ρ t).1 c).run P w3=.ok v w'∧∃ u ρ',Ending.returned v=.returned u∧Nx ρ h nx w ρ' (h3.set (some (.lp E4 n4 ps4 as4 body4 (UY c) c nx3)) uW t) (Nat.succ nx3) w'∧Kn (Nat.succ nx3) ρ' (.bool c.isNone) u∧Mem ρ' ⟨W0,ks0,G0,ok0,s0⟩ (h3.set (some (.lp E4 n4 ps4 as4 body4 (UY c) c nx3)) uW t) (Nat.succ nx3) w':=
                 ⟨_,w4,k1,_,ρ3,U,hnx,Nv,by rw [hw0] at k3;exact k3.base⟩
                cases x3 with
                | normal=>cases hc;exact fin
                | ret=>cases hc;exact fin
                | exit id=>cases hc;exact fin
                | goto l=>cases hc
                | panic ch=>cases hc
                | outgrown=>cases hc
               cases hx:NP x3 with
               | none=>trivial
               | some c =>
                 cases c with
                 | none=>exact go none hx
                 | some c=>exact go (some c) hx
             trivial
         · trivial
       | _=>trivial
   trivial
 trivial
end
section
variable {P:Program} {Φ:A3→Prop} {pr:wH}
theorem JK {ih:C5→B3} (H:∀ c,uP P Φ c (ih c)) {all rest:List Oper} {o:Oper} {n:Nat} {E:Tr CV} {h:Tr CB} {nx:Nat}
 (hw:∀ (ρ:Pl) (w0:E5 Φ) (a:Act) (w:World),F1 ρ w0 n E h nx a w→Region.wanted o (yielded all.toArray a.tmps)=true) :
 uP P Φ (.ops all (o :: rest) n E h nx) (match ih (.one o n E h nx) with | .ok x E h nx=>ih (.ops all rest n E h nx) | r=>r):=by
 have H1:=H (.one o n E h nx);generalize ih (.one o n E h nx)=q at H1;cases q with
 | bad=>trivial
 | ret v h' nx'=>exact H1.elim
 | ok x E' h' nx' =>
   obtain ⟨rfl,H1⟩:=H1;show uP P Φ _ (ih (.ops all rest n E' h' nx'));have H2:=H (.ops all rest n E' h' nx');generalize ih (.ops all rest n E' h' nx')=q2 at H2;cases q2 with
   | bad=>trivial
   | ret v h2 nx2=>exact H2.elim
   | ok x2 E2 h2 nx2 =>
     obtain ⟨rfl,H2⟩:=H2;refine ⟨U,fun ρ w0 a w hR hf hn K hK=>?_⟩;unfold uZ;rw [aM (hw ρ w0 a w hR)];exact H1 ρ w0 a w hR hf hn _ fun ρ' a' w' e1 e2 _=>H2 ρ' w0 a' w' e2 e1.fit hn K fun ρ2 a2 w2 f1 f2=>hK ρ2 a2 w2 (e1.trans hR.mem f1) f2
theorem JL {ih:C5→B3} (H:∀ c,uP P Φ c (ih c)) {all rest:List Oper} {o:Oper} {n:Nat} {E:Tr CV} {h:Tr CB} {nx:Nat}
 (hw:∀ (ρ:Pl) (w0:E5 Φ) (a:Act) (w:World),F1 ρ w0 n E h nx a w→Region.wanted o (yielded all.toArray a.tmps)=false) :
 uP P Φ (.ops all (o :: rest) n E h nx) (match Ab E n o.dst (.tup .nil) with | some E=>ih (.ops all rest n E h nx) | none=>.bad 4 []):=by
 split
 · rename_i E' hp;have H2:=H (.ops all rest n E' h nx);generalize ih (.ops all rest n E' h nx)=q2 at H2;cases q2 with
   | bad=>trivial
   | ret v h2 nx2=>exact H2.elim
   | ok x2 E2 h2 nx2 =>
     obtain ⟨rfl,H2⟩:=H2;refine ⟨U,fun ρ w0 a w hR hf hn K hK=>?_⟩;unfold uZ;rw [aE (by rw [hw ρ w0 a w hR];simp)];exact H2 ρ w0 _ w (hR.put (xU hR.slots hn hp Sc)) hf hn K hK
 trivial
theorem Kj {ih:C5→B3} (H:∀ c,uP P Φ c (ih c)) (all l:List Oper) (n:Nat) (E:Tr CV) (h:Tr CB) (nx:Nat):uP P Φ (.ops all l n E h nx) (step P pr ih (.ops all l n E h nx)):=by
 cases l with
 | nil=>exact ⟨U,fun ρ w0 a w hR hf hn K hK=>hK ρ a w (Nx.refl hf) hR⟩
 | cons o rest =>
   show uP P Φ _ (match o.guard with
    | none=>(match ih (.one o n E h nx) with
      | .ok x E h nx=>ih (.ops all rest n E h nx)
      | r=>r)
    | some (j,want)=>(match Cm all j with
      | some t=>(match E.get t with
        | some (.bool b)=>bif fj b want then
         (match ih (.one o n E h nx) with
         | .ok x E h nx=>ih (.ops all rest n E h nx)
         | r=>r)
          else (match Ab E n o.dst (.tup .nil) with | some E=>ih (.ops all rest n E h nx) | none=>.bad 4 [])
        | some (.tup .nil)=>(match Ab E n o.dst (.tup .nil) with | some E=>ih (.ops all rest n E h nx) | none=>.bad 4 [])
        | _=>.bad 5 [])
      | none=>.bad 6 []))
   split
   · rename_i hg;exact JK H fun ρ w0 a w hR=>by simp [Region.wanted,hg]
   rename_i j want hg;split
   · rename_i t ht;split
     · rename_i b hb;cases hx:fj b want with
       | true =>
         have e:b=want:=by cases b <;> cases want <;> first | rfl | cases hx
         exact JK H fun ρ w0 a w hR=>by simp [Region.wanted,hg,Hz hR.slots ht hb,e]
       | false =>
         have e:b≠want:=by cases b <;> cases want <;> first | (cases hx;done) | exact uR
         exact JL H fun ρ w0 a w hR=>by simp [Region.wanted,hg,Hz hR.slots ht hb,e]
     · rename_i hb;exact JL H fun ρ w0 a w hR=>by simp [Region.wanted,hg,Sd hR.slots ht hb]
     trivial
   trivial
theorem YV {nx:Nat} {ρ:Pl} {l:CV} {vs:List Value} (hk:KL nx ρ l vs):∀ (i:Nat) (E:Tr CV),i+vs.length≤100000→∀ (j:Nat) (x:CV),(CW l i E).get j=some x→(i≤j∧∃ v,vs[j - i]?=some v∧Kn nx ρ x v)∨E.get j=some x:=by
 refine nD (motive:=fun l vs=>∀ (i:Nat) (E:Tr CV),i+vs.length≤100000→∀ (j:Nat) (x:CV),(CW l i E).get j=some x→(i≤j∧∃ v,vs[j - i]?=some v∧Kn nx ρ x v)∨E.get j=some x) ?_ ?_ hk
 · intro i E _ j x hx;exact .inr hx
 intro a b v vs hv hvs ih i E hi j x hx;have hx':(CW b (Nat.succ i) (E.set (some a) uW i)).get j=some x:=hx;rw [bN] at hi;rcases ih (i+1) _ uJ j x hx' with ⟨h1,u,h2,h3⟩ | h1
 · refine .inl ⟨by omega,u,?_,h3⟩;rw [show j - i=(j - (i+1))+1 by omega];simpa using h2
 rw [fE (some a) uW E i j (by rw [Rm];omega)] at h1;by_cases e:j=i
 · rw [aM e] at h1;cases h1;exact .inl ⟨by omega,v,by subst e;simp,hv⟩
 rw [aE e] at h1;exact .inr h1
section
variable {nx n:Nat} {ρ:Pl} {w0:E5 Φ} {w:World} {E:Tr CV} {h:Tr CB} {a:Act}
theorem YW (hR:F1 ρ w0 n E h nx a w) {x:ResultVar} {c:CV} (hc:fg P E h x=some c):∃ v,Kn nx ρ c v∧(Bm a.tmps x).run P w=.ok v w:=by
 cases x with
 | tmp t =>
   obtain ⟨v,h1,h2⟩:=hR.slots.2 t c hc;exact ⟨v,h2,by simp [Bm,h1]⟩
 | cell t T =>
   have hc':qv P E h (.load T (.tmp t))=some c:=hc;obtain ⟨ob,hob⟩:∃ ob:Nat→Obj,∀ t b,h.get t=some b→w.heap[(ρ t).1]?=some (ob t)∧DB nx ρ (ρ t).2 b (ob t):=by
    refine ⟨fun t=>(w.heap[(ρ t).1]?).getD default,fun t b hb=>?_⟩;obtain ⟨_,_,_,o,h1,h2⟩:=hR.mem.own t b hb;exact ⟨by show _=some ((w.heap[(ρ t).1]?).getD default);rw [h1];rfl,by show DB _ _ _ _ ((w.heap[(ρ t).1]?).getD default);rw [h1];exact h2⟩
   obtain ⟨v,k1,k2⟩:=JF (ob:=ob) hR.slots (fun t b _ hb=>(hob t b hb).2) hc';have hr:=k2 w (fun t ht=>by
    obtain ⟨b,hb⟩:=GL ht hc';exact (hob t b hb).1) none 0 "" #[] none
   refine ⟨v,k1,?_⟩;have hp:∃ ad,a.eval (.tmp t)=.pointer (some ad):=by
    have hx:∃ tt o,wA E (.tmp t)=some (.ptr tt o):=by
     have hq':(match wA E (.tmp t) with
      | some (.ptr t o)=>match h.get t with
        | some (.cells l _ _ _)=>bif xB P T then NC l o else
          (match gi P T with
          | some k=>bif Nat.beq (vP (vU l o k)) k then some (.agg (vU l o k)) else none
          | none=>none)
        | _=>none
      | _=>none)=some c:=hc'
     split at hq'
     · rename_i tt o hx;exact ⟨tt,o,hx⟩
     cases hq'
    obtain ⟨tt,o,hx⟩:=hx;obtain ⟨u,e1,g1⟩:=uQ hR.slots hx;have:=nX.1 g1.2;subst this;exact ⟨_,wU e1⟩
   obtain ⟨ad,had⟩:=hp;have had':a.tmps.getD t undef=.pointer (some ad):=had;simp only [Bm,had',asAddr];simp only [execOp,had,Instr.loadAt,Instr.sureAddr] at hr;simp only [bL,bR,aO] at hr ⊢;generalize (loadVar T ad).run P w=q at hr ⊢;cases q with
   | ok u w'=>simp only [aO,bR,Result.ok.injEq,Next.value.injEq] at hr;obtain ⟨rfl,rfl⟩:=hr;rfl
   | halt x w'=>cases hr
theorem JM (hR:F1 ρ w0 n E h nx a w):∀ {l:List ResultVar} {c:CV},fh P E h l=some c→∃ vs,KL nx ρ c vs∧(l.mapM (Bm a.tmps)).run P w=.ok vs w:=by
 intro l;induction l with
 | nil=>intro c hc;cases hc;exact ⟨[],pA,by simp⟩
 | cons x l ih =>
   intro c hc;have hc':(match fg P E h x with | some a=>(match fh P E h l with | some b=>some (.cons a b) | none=>none) | none=>none)=some c:=hc;split at hc'
   · rename_i c1 h1;split at hc'
     · rename_i c2 h2;cases hc';obtain ⟨v,k1,r1⟩:=YW hR h1;obtain ⟨vs,k2,r2⟩:=ih h2;exact ⟨v :: vs,qT k1 k2,by simp [List.mapM_cons,r1,r2]⟩
     cases hc'
   cases hc'
theorem YX (hR:F1 ρ w0 n E h nx a w) {fn:Func} {c:CV} (hc:CX P E h fn.results.toList=some c):∃ v,Kn nx ρ c v∧(results fn a.tmps).run P w=.ok v w:=by
 unfold CX at hc;have key:∀ vs,(fn.results.toList.mapM (Bm a.tmps)).run P w=.ok vs w→(results fn a.tmps).run P w=.ok (if h:vs.toArray.size=1 then vs.toArray[0] else .tuple vs.toArray) w:=fun vs hvs=>by
  rw [zT];have e1:fn.results.mapM (Bm a.tmps)=List.toArray <$> (fn.results.toList.mapM (Bm a.tmps)):=by rw [Array.mapM_eq_mapM_toList]
  rw [e1,map_eq_pure_bind];simp only [bL,hvs,aO,bR]
 split at hc
 · rename_i c1 h1;cases hc;obtain ⟨vs,k1,r1⟩:=JM hR h1;obtain ⟨v,vs',rfl,k2,k3⟩:=k1.inv_cons;rw [k3.inv_nil] at r1;exact ⟨v,k2,by rw [key _ r1];simp⟩
 · rename_i c1 hne h1;cases hc;obtain ⟨vs,k1,r1⟩:=JM hR h1;refine ⟨.tuple vs.toArray,⟨k1.1,rQ.2 ⟨vs,k1.2,U⟩⟩,?_⟩;rw [key _ r1];have:¬vs.toArray.size=1:=fun hs=>by
    have hl:vs.length=1:=by simpa using hs
    rw [←vS k1] at hl;revert k1 hl hne;cases c1 <;> first | (intro hne k1 hl;cases hl;done) | skip
    rename_i x y;intro hne k1 hl;obtain ⟨v,vs',rfl,k2,k3⟩:=k1.inv_cons;have hy:vP y=0:=rO hl;cases y <;> first | exact absurd U (hne _) | (exact absurd k3.2 id) | (cases hy)
   rw [dif_neg this]
 cases hc
end
end
section
variable {P:Program} {Φ:A3→Prop} {pr:wH}
theorem Wi {ops:Array Oper} {K:Act→World→Prop} {C C':Array Bool→World→Prop} (hC:∀ L w,C' L w→C L w):∀ (f:Nat) (L:Array Bool) (a:Act) (w:World),gm P ops K C' f L a w→gm P ops K C f L a w
 | 0,_,_,_,h=>⟨hC _ _ h.1,h.2⟩
 | f+1,_,_,_,h=>⟨hC _ _ h.1,h.2.1,fun i hi=>Ol (fun a w h=>Wi hC f _ a w h) (h.2.2 i hi)⟩
theorem DA {n nx:Nat} {ρ:Pl} {E:Tr CV} {a:Act} {l:List Oper} {o:Oper} {g:Bool} (hs:B4 ρ E nx n a) (h:ZV l E o=some g):Region.wanted o (yielded l.toArray a.tmps)=g:=by
 unfold ZV at h;split at h
 · rename_i hg;cases h;simp [Region.wanted,hg]
 rename_i j want hg;split at h
 · rename_i t ht;split at h
   · rename_i b hb;cases h;have:=Hz hs ht hb;simp only [Region.wanted,hg,this];cases b <;> cases want <;> rfl
   · rename_i hb;cases h;have:=Sd hs ht hb;simp [Region.wanted,hg,this]
   cases h
 cases h
theorem Dj {l:List Oper} {L:Array Bool} {i:Nat} (hd:YU l L) (hi:i∈Region.ready .any l.toArray L):YU l (L.setIfInBounds i true):=fun j o hj hl e he hb=>by
 by_cases hji:i=j
 · subst hji;obtain ⟨_,o',ho',h2⟩:=fS.1 hi;have ho:l.toArray[i]?=some o:=by simpa using hj
   rw [ho] at ho';cases ho';exact qX (h2 e he hb)
 rw [jR false hji] at hl;exact qX (hd j o hj hl e he hb)
theorem DC {l:List Oper} {L:Array Bool} {i j:Nat} (hd:YU l L) (hi:i∈Region.ready .any l.toArray L) (hw:NQ l i j):L.getD j false=false:=by
 obtain ⟨o,ho,_,he⟩:=hw;obtain ⟨e,he1,he2,he3⟩:=Ry.1 he;cases hl:L.getD j false with
 | false=>rfl
 | true =>
   have h1:=hd j o ho hl e he1 he2;rw [he3] at h1;obtain ⟨h0,o',ho',_⟩:=fS.1 hi;have hlt:i<l.toArray.size:=(cK.1 ho').1;rcases aK i L.size with hs | hs
   · simp [hs] at h0 h1;rw [h0] at h1;cases h1
   simp [lV hs] at h1
theorem Wj {o:Oper}:∀ {pend:List (Nat×Nat×Nat)} {x:Nat×Nat×Nat},x∈pend→(not (Ee o.op) && Rq o x.2.1)=false→x∈vE o pend:=by
 intro pend;induction pend with
 | nil=>intro x h _;cases h
 | cons y pend ih =>
   intro x h hx;show x∈(bif not (Ee o.op) && Rq o y.2.1 then vE o pend else y :: vE o pend);rcases dK.1 h with rfl | h
   · rw [hx];exact bM
   cases (not (Ee o.op) && Rq o y.2.1) with
   | true=>exact ih h hx
   | false=>exact bD _ (ih h hx)
theorem xI {A:Array Bool} {j:Nat}:A.getD j true=false↔j<A.size∧A.getD j false=false:=by
 rcases aK j A.size with h | h
 · simp [h]
 simp [lV h];omega
theorem Sf {R:List Nat} {L:Array Bool} {k:Nat}:(Sa R L).size=L.size∧((Sa R L).getD k false=true↔L.getD k false=true∨(k∈R∧k<L.size)):=by
 induction R with
 | nil=>exact ⟨U,fun h=>.inl h,fun h=>h.elim (fun q=>q) fun q=>by cases q.1⟩
 | cons j R ih =>
   obtain ⟨h1,h2⟩:=ih;refine ⟨by show ((Sa R L).setIfInBounds j true).size=_;simp [h1],?_⟩;show ((Sa R L).setIfInBounds j true).getD k false=true↔_;by_cases e:j=k
   · subst e;rcases aK j L.size with h | h
     · have:j<(Sa R L).size:=by rw [h1];exact h
       simp [this,h]
     have h3:¬j<(Sa R L).size:=by rw [h1];omega
     have h4:((Sa R L).setIfInBounds j true).getD j false=(Sa R L).getD j false:=by
      rw [gN,gN,lV (by simp;omega),lV uJ]
     rw [h4,h2];constructor
     · rintro (h5 | h5)
       · exact .inl h5
       omega
     rintro (h5 | h5)
     · exact .inl h5
     omega
   rw [jR false e,h2];constructor
   · rintro (h5 | h5)
     · exact .inl h5
     exact .inr ⟨bD _ h5.1,h5.2⟩
   rintro (h5 | h5)
   · exact .inl h5
   rcases dK.1 h5.1 with h6 | h6
   · exact absurd h6.symm e
   exact .inr ⟨h6,h5.2⟩
section lists
variable {l:List Oper} {L Lm:Array Bool} {S:List D6} {i:Nat}
theorem LR.unl (h:LR L S Lm) {j:Nat} (hj:Lm.getD j true=false):L.getD j true=false∧∀ e∈S,e.j≠j:=by
 obtain ⟨h1,h2⟩:=xI.1 hj;refine ⟨xI.2 ⟨by rw [←h.size];exact h1,?_⟩,fun e he hej=>?_⟩
 · cases hl:L.getD j false with
   | false=>rfl
   | true=>rw [(h.iff j).2 (.inl hl)] at h2;cases h2
 rw [(h.iff j).2 (.inr ⟨e,he,hej⟩)] at h2;cases h2
theorem LR.up (h:LR L S Lm) (hi:i∈Region.ready .any l.toArray L) (hn:∀ e∈S,e.j≠i):i∈Region.ready .any l.toArray Lm:=by
 obtain ⟨h1,o,ho,h2⟩:=fS.1 hi;obtain ⟨h3,h4⟩:=xI.1 h1;refine fS.2 ⟨xI.2 ⟨by rw [h.size];exact h3,?_⟩,o,ho,fun e he hb=>(h.iff _).2 (.inl (h2 e he hb))⟩;cases hl:Lm.getD i false with
 | false=>rfl
 | true =>
   rcases (h.iff i).1 hl with h5 | ⟨e,h5,h6⟩
   · rw [h4] at h5;cases h5
   exact absurd h6 (hn e h5)
theorem LR.set (h:LR L S Lm) (hi:i<L.size) (hn:∀ e∈S,e.j≠i):LR (L.setIfInBounds i true) S (Lm.setIfInBounds i true):=by
 refine ⟨by simp [h.size],fun j=>?_,fun e he=>?_⟩
 · by_cases e:i=j
   · subst e;have h1:i<Lm.size:=by rw [h.size];exact hi
     simp [hi,h1]
   rw [jR false e,jR false e];exact h.iff j
 rw [jR true (fun e2=>hn e he e2.symm)];exact h.un e he
theorem LR.nil (h:LR L [] Lm) {j:Nat} (hj:j∈Region.ready .any l.toArray Lm):j∈Region.ready .any l.toArray L:=by
 obtain ⟨h1,o,ho,h2⟩:=fS.1 hj;refine fS.2 ⟨(h.unl h1).1,o,ho,fun e he hb=>?_⟩;rcases (h.iff _).1 (h2 e he hb) with h3 | ⟨x,h3,_⟩
 · exact h3
 cases h3
theorem LR.early (h:LR L S Lm) {j p:Nat} {o:Obj} {V:Nat→Value} (hj:Lm.getD j true=false):LR L (⟨j,p,o,V⟩ :: S) (Lm.setIfInBounds j true):=by
 obtain ⟨h1,h2⟩:=xI.1 hj;refine ⟨by simp [h.size],fun k=>?_,fun e he=>?_⟩
 · by_cases e:j=k
   · subst e;simp [h1]
   rw [jR false e,h.iff k];constructor
   · rintro (h5 | ⟨x,h5,h6⟩)
     · exact .inl h5
     exact .inr ⟨x,bD _ h5,h6⟩
   rintro (h5 | ⟨x,h5,h6⟩)
   · exact .inl h5
   rcases dK.1 h5 with rfl | h5
   · exact absurd h6 e
   exact .inr ⟨x,h5,h6⟩
 rcases dK.1 he with rfl | he
 · exact (h.unl hj).1
 exact h.un e he
theorem NS {e:D6} (he:e∈S):∃ A B,S=A++e :: B:=List.append_of_mem he
theorem LR.adopt {A B:List D6} {e:D6} (h:LR L (A++e :: B) Lm) (hnd:((A++e :: B).map (·.j)).Nodup):LR (L.setIfInBounds e.j true) (A++B) Lm:=by
 have hu:=(xI.1 (h.un e vL)).1;have hne:∀ x,x∈A++B→x.j≠e.j:=fun x hx hxe=>by
  rw [iL,cA] at hnd;have h1:=qS.1 hnd;have h2:=lZ.1 h1.2.1;rcases eL.1 hx with h3 | h3
  · exact h1.2.2 x.j (cV.2 ⟨x,h3,U⟩) e.j (bM ..) hxe
  exact h2.1 (cV.2 ⟨x,h3,hxe⟩)
 refine ⟨by simp [h.size],fun k=>?_,fun x hx=>?_⟩
 · rw [h.iff k];by_cases e2:e.j=k
   · subst e2;simp [hu];exact .inr ⟨e,.inr (.inl U),U⟩
   rw [jR false e2];constructor
   · rintro (h5 | ⟨x,h5,h6⟩)
     · exact .inl h5
     rcases eL.1 h5 with h7 | h7
     · exact .inr ⟨x,jU _ h7,h6⟩
     rcases dK.1 h7 with rfl | h7
     · exact absurd h6 e2
     exact .inr ⟨x,kS _ h7,h6⟩
   rintro (h5 | ⟨x,h5,h6⟩)
   · exact .inl h5
   rcases eL.1 h5 with h7 | h7
   · exact .inr ⟨x,jU _ h7,h6⟩
   exact .inr ⟨x,kS _ (bD _ h7),h6⟩
 rw [jR true (fun e2=>hne x hx e2.symm)];refine h.un x ?_;rcases eL.1 hx with h3 | h3
 · exact jU _ h3
 exact kS _ (bD _ h3)
theorem GM {Rc R:List Nat} (h:LR L S Lm) (hr:F3 l L Rc i R) (hs:∀ e∈S,e.j∈Rc) (hn:∀ e∈S,e.j≠i) {j:Nat} (hj:j∈Region.ready .any l.toArray Lm):j=i∨j∈R:=by
 by_cases hR:j∈R
 · exact .inr hR
 refine .inl (hr.only j ?_);obtain ⟨h1,o,ho,h2⟩:=fS.1 hj;obtain ⟨h3,h4⟩:=xI.1 (h.unl h1).1;refine fS.2 ⟨xI.2 ⟨by rw [(Sf (k:=0)).1];exact h3,?_⟩,o,ho,fun e he hb=>Sf.2.2 ?_⟩
 · cases hl:(Sa R L).getD j false with
   | false=>rfl
   | true =>
     rcases Sf.2.1 hl with h5 | h5
     · rw [h4] at h5;cases h5
     exact absurd h5.1 hR
 rcases (h.iff _).1 (h2 e he hb) with h5 | ⟨x,h5,h6⟩
 · exact .inl h5
 rw [←h6];refine .inr ⟨?_,(xI.1 (h.un x h5)).1⟩;rcases hr.sub x.j (hs x h5) with h7 | h7
 · exact absurd h7 (hn x h5)
 exact h7
theorem DD:∀ {xs ys:List Nat},xs.Nodup→(∀ x∈xs,x∈ys)→xs.length≤ys.length
 | [],_,_,_=>aS _
 | x :: xs,ys,hn,h=>by
   obtain ⟨h1,h2⟩:=lZ.1 hn;have hx:=h x (bM ..);have:=DD (ys:=ys.erase x) h2 fun y hy=>(List.mem_erase_of_ne (fun e=>h1 (by rw [←e];exact hy))).2 (h y (bD _ hy));rw [List.length_erase_of_mem hx] at this;have:0<ys.length:=List.length_pos_of_mem hx;rw [bN];omega
theorem C7.cover:∀ {p:List (Nat×Pk)} {L:Array Bool} {Rc:List Nat},C7 l L Rc p→∀ k∈Rc,k∈p.map (·.1)
 | [],_,_,h,k,hk=>by rw [h.2] at hk;cases hk
 | (i,.look) :: p,_,_,h,k,hk=>bD _ (C7.cover h.2 k hk)
 | (i,.only) :: p,_,_,h,k,hk=>by rw [h.1] at hk;cases hk
 | (i,.race R) :: p,_,_,h,k,hk=>by
   rcases h.1.sub k hk with rfl | h2
   · exact bM ..
   · exact bD _ (C7.cover h.2.2 k h2)
 | (i,.make R) :: p,_,_,h,k,hk=>by
   rcases h.1.sub k hk with rfl | h2
   · exact bM ..
   exact bD _ (C7.cover h.2.2 k h2)
abbrev tM:=@C7.cover
theorem Sg {p:List (Nat×Pk)} {Rc:List Nat} (hp:C7 l L Rc p) (hs:∀ e∈S,e.j∈Rc) (hn:(S.map (·.j)).Nodup):S.length≤p.length:=by
 have:=DD hn (ys:=p.map (·.1)) fun x hx=>by
  obtain ⟨e,he,rfl⟩:=cV.1 hx;exact hp.cover _ (hs e he)
 simpa using this
end lists
section
variable {l:List Oper} {ρ ρ':Pl} {h h':Tr CB} {nx nx' n:Nat} {a a':Act} {w w' ws:World} {e:D6} {E:Tr CV} {w0:E5 Φ}
theorem Fq {o:Oper} (h:Rr o=true):(∀ cs b,o.op≠.select cs b)∧Ee o.op=false∧o.guard=none∧(∃ xs,nj o.op=some xs)∧TN o.op=true∧∀ d,o.dst=some d→∀ x∈o.op.operands,x≠.tmp d:=by
 unfold Rr at h;rw [aB] at h;obtain ⟨h1,h2⟩:=h;have hg:o.guard=none:=by
  split at h2
  · assumption
  cases h2
 have hd:∀ d,o.dst=some d→∀ x∈o.op.operands,x≠.tmp d:=fun d hd x hx hxd=>by
  rw [hg,hd] at h2;simp only [eJ] at h2;have h3:NL (isT d) o.op.operands.toList=true:=Rp.2 ⟨x,by simpa using hx,by rw [hxd];show Nat.beq d d=true;simp⟩;rw [h3] at h2;cases h2
 obtain ⟨dst,op,ty,pos,after,g⟩:=o;refine ⟨fun cs b e=>?_,?_,hg,?_,h1,hd⟩
 · have e':op=.select cs b:=e;subst e';cases h1
 · cases op <;> first | rfl | cases h1
 cases op <;> first | exact ⟨_,U⟩ | skip
 case makeMap T x=>cases x <;> first | exact ⟨_,U⟩ | cases h1
 all_goals cases h1
theorem Wk {dst:Option Nat} (hk:H8 dst a a') {x:Operand} (hx:∀ d,dst=some d→x≠.tmp d):a'.eval x=a.eval x:=by
 cases x with
 | tmp t =>
   show a'.tmps.getD t undef=a.tmps.getD t undef;rw [gN,gN,hk t (fun e=>hx t e rfl)]
 | _=>rfl
theorem EOk.keep (he:EOk P l ρ h a w ws e) {o:Oper} (hk:H8 o.dst a a') (hap:∀ oj,l[e.j]?=some oj→oj.apart l.toArray o=true) (hfr:Tp ρ h nx w ρ' h' w'):EOk P l ρ' h' a' w' ws e:=by
 obtain ⟨⟨oj,d,h1,h2,h3,h4,h5⟩,g1,g2,g3,g4⟩:=he;obtain ⟨q1,q2,q3⟩:=Oper.apart_spec (hap oj h1);refine ⟨⟨oj,d,h1,h2,h3,?_,fun w2=>?_⟩,bW g1 hfr.sz,(hfr.fr _ g1 g4 id).trans g2,g3,fun t b ht e2=>?_⟩
 · rw [hk d (fun e2=>q2 d h3 e2)];exact h4
 · rw [←h5 w2,execOp_congr oj (Fq h2).1 fun x hx=>Wk hk fun d' hd hxd=>?_];subst hxd;exact q3 d' hd (jU _ (List.mem_filterMap.2 ⟨.tmp d',by simpa using hx,rfl⟩))
 rcases hfr.nw t b ht with h6 | ⟨t',b',h6,h7⟩
 · omega
 exact g4 t' b' h6 (h7.trans e2)
theorem DE (hs:B4 ρ E nx n a) {d:Nat} (hd:E.get d=none) (v:Value):B4 ρ E nx n (a.put (some d) v):=by
 refine ⟨by show (a.tmps.setIfInBounds d v).size=n;simp [hs.1],fun i x hx=>?_⟩;obtain ⟨u,h1,h2⟩:=hs.2 i x hx;refine ⟨u,?_,h2⟩;show (a.tmps.setIfInBounds d v)[i]?=some u;rw [jE (fun e=>by subst e;rw [hd] at hx;cases hx)];exact h1
theorem Wm {R:List Nat} (hR:∀ j∈R,∀ d,Cm l j=some d→d<uW):∀ i x,(vO l R E).get i=some x→E.get i=some x:=by
 induction R with
 | nil=>exact fun i x h=>h
 | cons j R ih =>
   intro i x hx;have hx':(match Cm l j with | some d=>(vO l R E).set none uW d | none=>vO l R E).get i=some x:=hx;have ih':=ih fun k hk=>hR k (bD _ hk);split at hx'
   · rename_i d hd;rw [fE _ _ _ _ _ (hR j (bM ..) d hd)] at hx';split at hx'
     · cases hx'
     exact ih' i x hx'
   exact ih' i x hx'
theorem Sh {R:List Nat} (hR:∀ j∈R,∀ d,Cm l j=some d→d<uW) {j d:Nat} (hj:j∈R) (hd:Cm l j=some d):(vO l R E).get d=none:=by
 induction R with
 | nil=>cases hj
 | cons k R ih =>
   show (match Cm l k with | some d=>(vO l R E).set none uW d | none=>vO l R E).get d=none;have hR':∀ j∈R,∀ d,Cm l j=some d→d<uW:=fun k hk=>hR k (bD _ hk);rcases dK.1 hj with rfl | hj
   · rw [hd];simp only;rw [fE _ _ _ _ _ (hR _ (bM ..) d hd),aM rfl]
   have:=ih hR' hj;split
   · rename_i d' hd';rw [fE _ _ _ _ _ (hR k (bM ..) d' hd')];split
     · rfl
     exact this
   exact this
theorem F1.less {E':Tr CV} (hR:F1 ρ w0 n E h nx a w) (hE:∀ i x,E'.get i=some x→E.get i=some x):F1 ρ w0 n E' h nx a w:=by
 obtain ⟨os,hR⟩:=hR;exact ⟨os,⟨hR.slots.1,fun i x hx=>hR.slots.2 i x (hE i x hx)⟩,hR.defers,hR.mem,hR.mks,hR.ss⟩
end
theorem Mb {l:List Oper} {Lm:Array Bool} {ρ ρ':Pl} {w w':World} {nx nx':Nat} {pend pend':List (Nat×Nat×Nat)} {cs:List (Nat×Nat×Obj)} {i:Nat} (hp:E6 l Lm ρ w nx pend cs) (hn:nx≤nx') (he:F8 nx ρ ρ') (hw:∀ (b:Nat) (o:Obj),w.heap[b]?=some o→w'.heap[b]?=some o)
 (hpe:∀ t k b,(t,k,b)∈pend→(t,k,b)∈pend'∨(NQ l k i∧(Lm.setIfInBounds i true).getD i false=true)):E6 l (Lm.setIfInBounds i true) ρ' w' nx' pend' cs:=fun x hx=>by
 rcases hp x hx with ⟨k,h1,h2⟩ | ⟨t,b,h1,h2,h3,h4,h5⟩
 · exact .inl ⟨k,h1,qX h2⟩
 rcases hpe _ _ _ h1 with h6 | h6
 · exact .inr ⟨t,b,h6,bW h2 hn,by rw [he t h2];exact h3,aP h4 hn,hw _ _ h5⟩
 exact .inl ⟨i,h6.1,h6.2⟩
theorem GN {A:Array Bool} {i:Nat} (h:A.getD i true=false):(A.setIfInBounds i true).getD i false=true:=by
 have:=(xI.1 h).1;simp [this]
theorem alloc_old {w:World} {o:Obj}:∀ (b:Nat) (x:Obj),w.heap[b]?=some x→(w.alloc o).heap[b]?=some x:=fun b x h=>by
 rw [(wQ w o).same b (cK.1 h).1 id];exact h
theorem JN {l:List Oper} {R Rc:List Nat} {n i nx pl:Nat} {E:Tr CV} {h:Tr CB} {pend:List (Nat×Nat×Nat)} {ρ ρs:Pl} {w0:E5 Φ} {ws:World} {hs:Tr CB} {Nc:Nat} {L:Array Bool} {cs:List (Nat×Nat×Obj)} {K:Act→World→Prop}
 (hf:nx≤uW) (hn:n≤100000) (hro:F3 l L Rc i R) (hkill:∀ j∈R,∀ d,Cm l j=some d→E.get d=none) (hrq:Ax P l R n E h nx=true) (hcov:∀ (S:List D6),(∀ e∈S,e.j∈Rc∨e.j∈R)→(∀ e∈S,e.j≠i)→(S.map (·.j)).Nodup→S.length≤pl)
 (go:∀ (a:Act) (w:World) (Lm:Array Bool) (S:List D6) (f:Nat),RI P l n E h nx pend ρ ρs w0 a w ws hs Nc L Lm (Rc++R) S cs→(∀ e∈S,e.j≠i)→pl=f+S.length→i∈Region.ready .any l.toArray Lm→stp P l.toArray i (gm P l.toArray K (CP l cs) f (Lm.setIfInBounds i true)) a w) :
 ∀ (f:Nat) (a:Act) (w:World) (Lm:Array Bool) (S:List D6),RI P l n E h nx pend ρ ρs w0 a w ws hs Nc L Lm (Rc++R) S cs→(∀ e∈S,e.j≠i)→pl+1=f+S.length→gm P l.toArray K (CP l cs) f Lm a w:=by
 intro f;induction f with
 | zero =>
   intro a w Lm S hI hni hl;have:=hcov S (fun e he=>eL.1 (hI.sub e he)) hni hI.ndj;omega
 | succ f ih =>
   intro a w Lm S hI hni hl;have hir:=hI.lr.up hro.rd hni;have hsub:∀ e∈S,e.j=i∨e.j∈R:=fun e he=>by
    rcases eL.1 (hI.sub e he) with h1 | h1
    · exact hro.sub _ h1
    exact .inr h1
   refine ⟨hI.pend.cp,fun he=>(by rw [he] at hir;cases hir),fun j hj=>?_⟩;have hro':F3 l L (Rc++R) i R:=⟨hro.rd,fun k hk=>(eL.1 hk).elim (hro.sub k) .inr,hro.ni,hro.mks,hro.only⟩
   rcases GM hI.lr hro' hI.sub hni hj with rfl | hjR
   · exact go a w Lm S f hI hni uJ hj
   obtain ⟨oj,e1,e2,e3,e4,e5⟩:=hro.mks j hjR;have e1':l.toArray[j]?=some oj:=by simpa using e1
   obtain ⟨s1,s2,s3,⟨xs,s4⟩,_,s6⟩:=Fq e2;have hq:=xQ.1 hrq j hjR;obtain ⟨oj',e6,e7⟩:=Eb hq;rw [e1] at e6;cases e6;rw [aB] at e7;obtain ⟨e7,e8⟩:=e7;obtain ⟨dst,op,ty,pos,after,g⟩:=oj;cases dst with
   | none=>cases e7
   | some d =>
     have hdn:d<n:=vC e7;have hEd:E.get d=none:=hkill j hjR d (by rw [Dp,e1];rfl);split at e8
     · rename_i c h' nx' hw;obtain ⟨b,s,o,V,_,_,_,_,_,_,hex⟩:=TX hI.rel.slots s4 hw;obtain ⟨m1,o1⟩:=hI.rel.mem.grow (wQ w o);have hji:j≠i:=fun e=>hro.ni (by rw [←e];exact hjR);have hjun:=(fS.1 hj).1;have hjS:=(hI.lr.unl hjun).2;have hstp:∀ Q:Act→World→Prop,Q (a.put (some d) (V w.heap.size)) (w.alloc o)→stp P l.toArray j Q a w:=fun Q hQ=>by
        unfold stp;simp only [e1'];have hg:g=none:=s3;subst hg;simp only [Region.wanted,fI];unfold Ag;rw [hex w (some d) ty pos after none];exact hQ
       refine hstp _ (ih (a.put (some d) (V w.heap.size)) (w.alloc o) (Lm.setIfInBounds j true) (⟨j,w.heap.size,o,V⟩ :: S) ?_ ?_ (by rw [bN];omega))
       · refine ⟨?_,hI.lr.early hjun,Dj hI.down hj,?_,?_,?_,?_,?_,hI.ms,hI.nxb.trans hI.ms ⟨aG _,hf,dT _ _,o1⟩⟩
         · obtain ⟨os,hR⟩:=hI.rel;obtain ⟨m2,_⟩:=hR.mem.grow (wQ w o);exact ⟨os,DE hR.slots hEd _,(Bz _ _ _).trans hR.defers,m2,hR.mks,aP hR.ss o1.sz⟩
         · intro e he;rcases dK.1 he with rfl | he
           · exact kS _ hjR
           exact hI.sub e he
         · rw [cA];exact lZ.2 ⟨fun h=>by obtain ⟨e,he,h⟩:=cV.1 h;exact hjS e he h,hI.ndj⟩
         · rw [cA];refine lZ.2 ⟨fun h=>?_,hI.ndp⟩;obtain ⟨e,he,h⟩:=cV.1 h;have:=(hI.eok e he).lt;simp only at h;omega
         · intro e he;rcases dK.1 he with rfl | he
           · refine ⟨⟨_,d,e1,e2,U,?_,fun w2=>?_⟩,?_,vQ w o,aP hI.nxb.old.sz (aG _),fun t b ht=>?_⟩
             · have hsz:d<a.tmps.size:=by rw [hI.rel.slots.1];exact hdn
               show (a.tmps.setIfInBounds d _)[d]?=_;simp [hsz]
             · rw [←hex w2 (some d) ty pos after g,execOp_congr (ρ:=(a.put (some d) (V w.heap.size)).eval) (ρ':=a.eval) _ s1 fun x hx=>Wk (qK a (some d) _) fun d' hd' hxd=>s6 d' hd' x hx hxd]
             · show w.heap.size<_;rw [wV];omega
             have:=hI.rel.mem.lt ht;show (ρ t).1≠w.heap.size;omega
           refine (hI.eok e he).keep (o:=⟨some d,op,ty,pos,after,g⟩) (qK _ _ _) (fun ok hok=>?_) o1;obtain ⟨ok',f1,f2,f3,f4,f5⟩:=hro.mks e.j ((hsub e he).resolve_left (hni e he));rw [hok] at f1;cases f1;exact f5 j hjR (fun e2=>hjS e he e2.symm) _ e1
         exact Mb hI.pend (aG _) (dT _ _) alloc_old fun t k b h=>.inl h
       intro e he;rcases dK.1 he with rfl | he
       · exact hji
       exact hni e he
     cases e8
theorem Wn {l:List Oper} {R:List Nat} {n nx:Nat} {E:Tr CV} {h:Tr CB} (hn:n≤100000) (hrq:Ax P l R n E h nx=true):∀ j∈R,∀ d,Cm l j=some d→d<uW:=fun j hj d hd=>by
 obtain ⟨o,h1,h2⟩:=Eb (xQ.1 hrq j hj);rw [Dp,h1] at hd;have hd':o.dst=some d:=hd;rw [aB,hd'] at h2;have h3:d+1≤n:=vC h2.1;rw [Rm];omega
theorem DF {ih:C5→B3} (H:∀ c,uP P Φ c (ih c)) (l:List Oper) (i:Nat) (plan:List (Nat×Pk)) (pend:List (Nat×Nat×Nat)) (n:Nat) (E:Tr CV) (h:Tr CB) (nx:Nat):uP P Φ (.reg l ((i,.look) :: plan) pend n E h nx) (step P pr ih (.reg l ((i,.look) :: plan) pend n E h nx)):=by
 show uP P Φ _ (match Ic l i with
  | some o=>(match ZV l E o with
    | some g=>(bif g then (match qv P E h o.op with
     | some c=>(match Ab E n o.dst c with
       | some E'=>ih (.reg l plan (match TG E o.op with | some t=>(t,i,nx) :: pend | none=>pend) n E' h nx)
       | none=>.bad 25 [o])
     | none=>.bad 26 [o])
     else (match Ab E n o.dst (.tup .nil) with | some E=>ih (.reg l plan pend n E h nx) | none=>.bad 27 [o]))
    | none=>.bad 30 [o])
  | none=>.bad 31 [])
 split
 · rename_i o ho;rw [zE] at ho;have ho':l.toArray[i]?=some o:=by simpa using ho
   split
   · rename_i g hg
     -- what an operation that only looks comes to
     have first:∀ {E':Tr CV} {pend':List (Nat×Nat×Nat)} (cs':Pl→World→List (Nat×Nat×Obj)→List (Nat×Nat×Obj)),
      (∀ (ρ:Pl) (w0:E5 Φ) (a:Act) (w:World) (cs:List (Nat×Nat×Obj)),F1 ρ w0 n E h nx a w→n≤100000→∃ (v:Value) (Cq:World→Prop),yl P l.toArray o a Cq v∧B4 ρ E' nx n (a.put o.dst v)∧
       (∀ L w',(∀ j,NQ l i j→L.getD j false=false)→CP l (cs' ρ w cs) L w'→Cq w')∧(∀ L w',CP l (cs' ρ w cs) L w'→CP l cs L w')∧(∀ L,E6 l L ρ w nx pend cs→E6 l L ρ w nx pend' (cs' ρ w cs)))→
      uP P Φ (.reg l ((i,.look) :: plan) pend n E h nx) (ih (.reg l plan pend' n E' h nx)):=fun {E' pend'} cs' hlook=>by
      have H2:=H (.reg l plan pend' n E' h nx);generalize ih (.reg l plan pend' n E' h nx)=q2 at H2;cases q2 with
      | bad=>trivial
      | ret v h2 nx2=>exact H2.elim
      | ok x2 E2 h2 nx2 =>
        obtain ⟨rfl,H2⟩:=H2;refine ⟨U,fun ρ ρs w0 a w ws hs Nc L Lm Rc S cs f hI hf hn hns hpl hlen K hK=>?_⟩;obtain ⟨⟨o',ho2,hlk,hrd,hfree⟩,hpl2⟩:=hpl;rw [ho] at ho2;cases ho2;obtain ⟨v,Cq,hy,hsl,hc1,hc2,hc3⟩:=hlook ρ w0 a w cs hI.rel hn;have hle:=Sg hpl2 hI.sub hI.ndj;rw [bN] at hlen;obtain ⟨f,rfl⟩:∃ f',f=f'+1:=⟨f - 1,by omega⟩
        have hSi:∀ e∈S,e.j≠i:=fun e he hei=>by
         obtain ⟨oj,d,h1,h2,_⟩:=(hI.eok e he).ex;rw [hei,ho] at h1;cases h1;rw [(Fq h2).2.1] at hlk;cases hlk
        have hrdm:=hI.lr.up hrd hSi;refine Wi hc2 _ _ _ _ ?_;have hdn2:=Dj hI.down hrdm;have hset:∀ L w',CP l (cs' ρ w cs) (L.setIfInBounds i true) w'→CP l (cs' ρ w cs) L w':=fun L w' hcp x hx hw=>hcp x hx fun j hj=>by
         have hne:i≠j:=fun e=>by
          subst e;obtain ⟨o2,h1,h2,_⟩:=hj;rw [ho] at h1;cases h1;rw [hlk] at h2;cases h2
         rw [jR false hne];exact hw j hj
        have hnoi:∀ e∈S,∀ oj,l[e.j]?=some oj→o.apart l.toArray oj=true:=fun e he oj hoj=>by
         refine hfree e.j oj (by simpa using hoj) (hSi e he) (hI.lr.un e he) fun x hx hb hxi=>?_;have h1:=hI.down e.j oj hoj ((hI.lr.iff e.j).2 (.inr ⟨e,he,U⟩)) x hx hb;rw [hxi,(xI.1 (fS.1 hrdm).1).2] at h1;cases h1
        have hg2:gm P l.toArray K (CP l (cs' ρ w cs)) f (Lm.setIfInBounds i true) (a.put o.dst v) w:=by
         refine H2 ρ ρs w0 (a.put o.dst v) w ws hs Nc _ _ Rc S _ f ⟨hI.rel.put hsl,hI.lr.set (xI.1 (fS.1 hrd).1).1 hSi,hdn2,hI.sub,hI.ndj,hI.ndp,fun e he=>?_,?_,hI.ms,hI.nxb⟩ hf hn hns hpl2 uJ K hK
         · refine (hI.eok e he).keep (nx:=nx) (o:=o) (qK a o.dst v) (fun oj hoj=>?_) gW;obtain ⟨q1,q2,q3⟩:=Oper.apart_spec (hnoi e he oj hoj);unfold Oper.apart;rw [aB];constructor
           · cases hd:oj.dst with
             | none=>rfl
             | some d =>
               simp only [aB,eJ,bne_iff_ne];refine ⟨?_,fun e2=>q2 d e2 hd⟩;have:=q3 d hd;simpa using this
           cases hd:o.dst with
           | none=>rfl
           | some d =>
             have:=q1 d hd;simpa using this
         intro x hx;rcases hc3 Lm hI.pend x hx with ⟨j,h1,h2⟩ | h1
         · exact .inl ⟨j,h1,qX h2⟩
         exact .inr h1
        refine Zm (Wr:=(List.range l.length).filter fun j=>match l[j]? with | some oj=>!Ee oj.op && Rq oj i | none=>false) (Cq:=Cq) ho' hns ?_ hset ?_ f Lm a w (fun j oj hj hne hun hno=>hfree j oj hj hne (hI.lr.unl hun).1 hno) ?_ hrdm hy hg2
        · intro L' w' hL hcp;refine hc1 L' w' (fun j hj=>hL j ?_) hcp;obtain ⟨o2,h1,h2,h3⟩:=hj;refine jC.2 ⟨oM.2 (aR.1 h1).1,?_⟩;simp [h1,h2,h3]
        · intro j hj oj hoj;obtain ⟨_,h2⟩:=jC.1 hj;have h1:l[j]?=some oj:=by simpa using hoj
          simp only [h1,aB] at h2;exact Ry.1 h2.2
        intro j hj;obtain ⟨h1,h2⟩:=jC.1 hj;have hlt:=oM.1 h1;rw [aA hlt] at h2;simp only [aB,eJ] at h2;exact DC hI.down hrdm ⟨_,aA hlt,h2.1,h2.2⟩
     cases g with
     | false =>
       simp only [nT];split
       · rename_i E' hp;refine first (fun _ _ cs=>cs) fun ρ w0 a w cs hR hn=>⟨undef,fun _=>True,.inr ⟨DA hR.slots hg,U⟩,xU hR.slots hn hp Sc,fun _ _ _ _=>trivial,fun _ _ h=>h,fun _ h=>h⟩
       · trivial
     | true =>
       simp only [iA];split
       · rename_i c hq;split
         · rename_i E' hp;cases hrd:TG E o.op with
           | none =>
             refine first (fun _ _ cs=>cs) fun ρ w0 a w cs hR hn=>?_
             obtain ⟨v,k1,k2⟩:=JF (ob:=fun _=>default) hR.slots (fun t b ht _=>by rw [hrd] at ht;cases ht) hq;exact ⟨v,fun _=>True,.inl ⟨DA hR.slots hg,fun w' _=>k2 w' (fun t ht=>by rw [hrd] at ht;cases ht) o.dst o.type o.pos o.after o.guard⟩,xU hR.slots hn hp k1,fun _ _ _ _=>trivial,fun _ _ h=>h,fun _ h=>h⟩
           | some t =>
             refine first (fun ρ w cs=>(i,(ρ t).1,(w.heap[(ρ t).1]?).getD default) :: cs) fun ρ w0 a w cs hR hn=>?_
             obtain ⟨b,hb⟩:=GL hrd hq;obtain ⟨htn,_,_,ob,hob,hdb⟩:=hR.mem.own t b hb;have hget:(w.heap[(ρ t).1]?).getD default=ob:=by rw [hob];rfl
             obtain ⟨v,k1,k2⟩:=JF (ob:=fun _=>ob) hR.slots (fun t' b' ht hb'=>by rw [hrd] at ht;cases ht;rw [hb] at hb';cases hb';exact hdb) hq;refine ⟨v,fun w'=>w'.heap[(ρ t).1]?=some ob,.inl ⟨DA hR.slots hg,fun w' hw'=>k2 w' (fun t' ht=>by rw [hrd] at ht;cases ht;exact hw') o.dst o.type o.pos o.after o.guard⟩,xU hR.slots hn hp k1,?_,?_,?_⟩
             · intro L w' hL hcp;have:=hcp _ bM hL;rw [this,hget]
             · intro L w' hcp x hx;exact hcp x (bD _ hx)
             intro L hpo x hx;rcases dK.1 hx with rfl | hx
             · exact .inr ⟨t,nx,bM,htn,U,aG _,by rw [hget];exact hob⟩
             rcases hpo x hx with h1 | ⟨t',b',h1,h2⟩
             · exact .inl h1
             exact .inr ⟨t',b',bD _ h1,h2⟩
         trivial
       trivial
   trivial
 trivial
theorem Wo {l:List Oper} {Lm:Array Bool} {ρ ρ':Pl} {h h':Tr CB} {nx nx':Nat} {w w':World} {pend:List (Nat×Nat×Nat)} {cs:List (Nat×Nat×Obj)} {j:Nat} {o:Oper} (ho:l[j]?=some o) (hrd:Lm.getD j true=false) (hpo:E6 l Lm ρ w nx pend cs)
 (e1:Nx ρ h nx w ρ' h' nx' w') (hkp:zR h' (vE o pend)=true):E6 l (Lm.setIfInBounds j true) ρ' w' nx' (vE o pend) cs:=by
 intro x hx;rcases hpo x hx with ⟨k,h1,h2⟩ | ⟨t',b',h1,h2,h3,h4,h5⟩
 · exact .inl ⟨k,h1,qX h2⟩
 cases hE:(not (Ee o.op) && Rq o x.1) with
 | false =>
   have hmem:=Wj h1 hE;have hk:=(xQ.1 hkp) _ hmem;simp only at hk;split at hk
   · rename_i bb hbb;have hst:Yl bb<b':=vC hk;obtain ⟨_,g2⟩:=e1.old.old t' bb hbb uJ;exact .inr ⟨t',b',hmem,bW h2 e1.le,by rw [e1.ext t' h2];exact h3,aP h4 e1.le,by rw [←h3,g2,h3];exact h5⟩
   · cases hk
 | true =>
   rw [aB,eJ] at hE;exact .inl ⟨j,⟨o,ho,hE.1,hE.2⟩,GN hrd⟩
theorem Mc {l:List Oper} {Lm:Array Bool} {pend:List (Nat×Nat×Nat)} {j:Nat} {o:Oper} (ho:l[j]?=some o) (hl:Lm.getD j false=true):∀ t k b,(t,k,b)∈pend→(t,k,b)∈vE o pend∨(NQ l k j∧Lm.getD j false=true):=fun t k b hm=>by
 cases hE:(not (Ee o.op) && Rq o k) with
 | false=>exact .inl (Wj hm hE)
 | true =>
   rw [aB,eJ] at hE;exact .inr ⟨⟨o,ho,hE.1,hE.2⟩,hl⟩
theorem DG {ih:C5→B3} (H:∀ c,uP P Φ c (ih c)) (l:List Oper) (i:Nat) (plan:List (Nat×Pk)) (pend:List (Nat×Nat×Nat)) (n:Nat) (E:Tr CV) (h:Tr CB) (nx:Nat):uP P Φ (.reg l ((i,.only) :: plan) pend n E h nx) (step P pr ih (.reg l ((i,.only) :: plan) pend n E h nx)):=by
 show uP P Φ _ (match Ic l i with
  | some o=>(match ZV l E o with
    | some g=>(bif g then (match ih (.one o n E h nx) with
     | .ok _ E h nx=>bif zR h (vE o pend) then ih (.reg l plan (vE o pend) n E h nx) else .bad 28 [o]
     | r=>r)
     else (match Ab E n o.dst (.tup .nil) with | some E=>ih (.reg l plan (vE o pend) n E h nx) | none=>.bad 29 [o]))
    | none=>.bad 30 [o])
  | none=>.bad 31 [])
 split
 · rename_i o ho;rw [zE] at ho;have ho':l.toArray[i]?=some o:=by simpa using ho
   split
   · rename_i g hg;cases g with
     | false =>
       simp only [nT];split
       · rename_i E' hp;have H2:=H (.reg l plan (vE o pend) n E' h nx);generalize ih (.reg l plan (vE o pend) n E' h nx)=q2 at H2;cases q2 with
         | bad=>trivial
         | ret v h2 nx2=>exact H2.elim
         | ok x2 E2 h2 nx2 =>
           obtain ⟨rfl,H2⟩:=H2;refine ⟨U,fun ρ ρs w0 a w ws hs Nc L Lm Rc S cs f hI hf hn hns hpl hlen K hK=>?_⟩;obtain ⟨rfl,⟨o',ho2,hrd,honly⟩,hpl2⟩:=hpl;have hS:S=[]:=jI.2 fun e he=>by cases hI.sub e he
           subst hS;have hrdm:=hI.lr.up hrd (fun e he=>by cases he);rw [bN] at hlen;obtain ⟨f,rfl⟩:∃ f',f=f'+1:=⟨f - 1,by simp only [cR] at hlen;omega⟩
           refine ⟨hI.pend.cp,fun he=>(by rw [he] at hrdm;cases hrdm),fun j hj=>?_⟩;have e:=honly j (hI.lr.nil hj);subst e;unfold stp;simp only [ho'];rw [DA hI.rel.slots hg];simp only [nY,fJ];have hjun:=(fS.1 hj).1;refine H2 ρ ρs w0 _ w ws hs Nc _ _ [] [] cs f ⟨hI.rel.put (xU hI.rel.slots hn hp Sc),hI.lr.set (xI.1 (fS.1 hrd).1).1 (fun e he=>by cases he),Dj hI.down hj,(fun e he=>by cases he),mS,mS,(fun e he=>by cases he),?_,hI.ms,hI.nxb⟩ hf hn hns hpl2 (by simpa using hlen) K hK;exact Mb hI.pend (aG _) (dT _ _) (fun b x h=>h) (Mc (Lm:=Lm.setIfInBounds j true) ho (GN hjun))
       · trivial
     | true =>
       simp only [iA];have H1:=H (.one o n E h nx);generalize ih (.one o n E h nx)=q1 at H1;cases q1 with
       | bad=>trivial
       | ret v h' nx'=>exact H1.elim
       | ok x E' h' nx' =>
         obtain ⟨rfl,H1⟩:=H1;show uP P Φ _ (bif zR h' (vE o pend) then ih (.reg l plan (vE o pend) n E' h' nx') else .bad 28 [o]);cases hkp:zR h' (vE o pend) with
         | false=>trivial
         | true =>
           simp only [iA];have H2:=H (.reg l plan (vE o pend) n E' h' nx');generalize ih (.reg l plan (vE o pend) n E' h' nx')=q2 at H2;cases q2 with
           | bad=>trivial
           | ret v h2 nx2=>exact H2.elim
           | ok x2 E2 h2 nx2 =>
             obtain ⟨rfl,H2⟩:=H2;refine ⟨U,fun ρ ρs w0 a w ws hs Nc L Lm Rc S cs f hI hf hn hns hpl hlen K hK=>?_⟩;obtain ⟨rfl,⟨o',ho2,hrd,honly⟩,hpl2⟩:=hpl;have hS:S=[]:=jI.2 fun e he=>by cases hI.sub e he
             subst hS;have hrdm:=hI.lr.up hrd (fun e he=>by cases he);rw [bN] at hlen;obtain ⟨f,rfl⟩:∃ f',f=f'+1:=⟨f - 1,by simp only [cR] at hlen;omega⟩
             refine ⟨hI.pend.cp,fun he=>(by rw [he] at hrdm;cases hrdm),fun j hj=>?_⟩;have e:=honly j (hI.lr.nil hj);subst e;unfold stp;simp only [ho'];rw [DA hI.rel.slots hg];simp only [fI];refine H1 ρ w0 a w hI.rel hf hn _ fun ρ' a' w' e1 e2 _=>?_;exact H2 ρ' ρs w0 a' w' ws hs Nc _ _ [] [] cs f ⟨e2,hI.lr.set (xI.1 (fS.1 hrd).1).1 (fun e he=>by cases he),Dj hI.down hj,(fun e he=>by cases he),mS,mS,(fun e he=>by cases he),Wo ho (fS.1 hj).1 hI.pend e1 hkp,hI.ms,hI.nxb.trans hI.ms e1⟩ e1.fit hn hns hpl2 (by simpa using hlen) K hK
   trivial
 trivial
theorem Si {A B:List D6} {e:D6} (g:D6→Nat) (h:((A++e :: B).map g).Nodup):((A++B).map g).Nodup∧∀ x∈A++B,g x≠g e:=by
 rw [iL,cA] at h;obtain ⟨h1,h2,h3⟩:=qS.1 h;obtain ⟨h4,h5⟩:=lZ.1 h2;refine ⟨by rw [iL];exact qS.2 ⟨h1,h5,fun a ha b hb=>h3 a ha b (bD _ hb)⟩,fun x hx=>?_⟩;rcases eL.1 hx with h6 | h6
 · exact h3 _ (cV.2 ⟨x,h6,U⟩) _ (bM ..)
 exact fun e2=>h4 (cV.2 ⟨x,h6,e2⟩)
theorem DH {ih:C5→B3} (H:∀ c,uP P Φ c (ih c)) (l:List Oper) (i:Nat) (R:List Nat) (plan:List (Nat×Pk)) (pend:List (Nat×Nat×Nat)) (n:Nat) (E:Tr CV) (h:Tr CB) (nx:Nat):uP P Φ (.reg l ((i,.race R) :: plan) pend n E h nx) (step P pr ih (.reg l ((i,.race R) :: plan) pend n E h nx)):=by
 show uP P Φ _ (match Ic l i with
  | some o=>bif Ax P l R n (vO l R E) h nx then (match ih (.one o n (vO l R E) h nx) with
   | .ok _ E h nx=>bif zR h (vE o pend) then ih (.reg l plan (vE o pend) n E h nx) else .bad 28 [o]
   | r=>r) else .bad 32 [o]
  | none=>.bad 31 [])
 split
 · rename_i o ho;rw [zE] at ho;have ho':l.toArray[i]?=some o:=by simpa using ho
   refine uU (uP P Φ _) (fun hrq=>?_) fun _=>trivial;have H1:=H (.one o n (vO l R E) h nx);generalize ih (.one o n (vO l R E) h nx)=q1 at H1;cases q1 with
   | bad=>trivial
   | ret v h' nx'=>exact H1.elim
   | ok x E' h' nx' =>
     obtain ⟨rfl,H1⟩:=H1;show uP P Φ _ (bif zR h' (vE o pend) then ih (.reg l plan (vE o pend) n E' h' nx') else .bad 28 [o]);refine uU (uP P Φ _) (fun hkp=>?_) fun _=>trivial;have H2:=H (.reg l plan (vE o pend) n E' h' nx');generalize ih (.reg l plan (vE o pend) n E' h' nx')=q2 at H2;cases q2 with
     | bad=>trivial
     | ret v h2 nx2=>exact H2.elim
     | ok x2 E2 h2 nx2 =>
       obtain ⟨rfl,H2⟩:=H2;refine ⟨U,fun ρ ρs w0 a w ws hs Nc L Lm Rc S cs f hI hf hn hns hpl hlen K hK=>?_⟩;obtain ⟨hro,⟨o',ho2,hgd,hnm⟩,hpl2⟩:=hpl;rw [ho] at ho2;cases ho2;have hlt:=Wn hn hrq;have hSi:∀ e∈S,e.j≠i:=fun e he hei=>by
        obtain ⟨oj,d,h1,h2,_⟩:=(hI.eok e he).ex;rw [hei,ho] at h1;cases h1;rw [(Fq h2).2.2.2.2.1] at hnm;cases hnm
       refine JN (E:=vO l R E) (pl:=plan.length) hf hn hro (fun j hj d hd=>Sh hlt hj hd) hrq ?_ ?_ f a w Lm S ⟨hI.rel.less (Wm hlt),hI.lr,hI.down,fun e he=>jU _ (hI.sub e he),hI.ndj,hI.ndp,hI.eok,hI.pend,hI.ms,hI.nxb⟩ hSi (by rw [←hlen,bN])
       · intro S hs hni hnd;exact Sg hpl2 (fun e he=>(hs e he).elim (fun h=>(hro.sub _ h).resolve_left (hni e he)) id) hnd
       intro a w Lm S f hI hSi hlen hir;have hsR:∀ e∈S,e.j∈R:=fun e he=>(eL.1 (hI.sub e he)).elim (fun h=>(hro.sub _ h).resolve_left (hSi e he)) id;unfold stp;simp only [ho',Region.wanted,hgd,fI];refine H1 ρ w0 a w hI.rel hf hn _ fun ρ' a' w' e1 e2 e3=>?_;refine H2 ρ' ρs w0 a' w' ws hs Nc _ _ R S cs f ⟨e2,hI.lr.set (xI.1 (fS.1 hro.rd).1).1 hSi,Dj hI.down hir,hsR,hI.ndj,hI.ndp,fun e he=>?_,Wo ho (fS.1 hir).1 hI.pend e1 hkp,hI.ms,hI.nxb.trans hI.ms e1⟩ e1.fit hn hns hpl2 hlen K hK;refine (hI.eok e he).keep e3 (fun oj hoj=>?_) e1.old;obtain ⟨ok',f1,f2,f3,f4,f5⟩:=hro.mks e.j (hsR e he);rw [hoj] at f1;cases f1;exact f4 o ho
 trivial
theorem Yy {nx:Nat} {ρ:Pl} {s:Nat} {b:CB} {o:Obj} (h:DB nx ρ s b o):∀ x,o≠.deferred x:=fun x e=>by
 subst e;cases b with
 | cells l ty op st=>obtain ⟨vs,junk,_,h2,_⟩:=h;cases h2
 | ro l ty st=>obtain ⟨vs,fz,_,h2⟩:=h;cases h2
 | mapI l st=>exact absurd (show Obj.deferred x=vV l from h) (by unfold vV;intro h;cases h)
 | mapK l st=>exact absurd (show Obj.deferred x=vV l from h) (by unfold vV;intro h;cases h)
 | it l pos st=>obtain ⟨bs,_,h2⟩:=h;cases h2
 | lp E n ps asg body q p st=>obtain ⟨q,h1,_⟩:=h;cases h1
theorem Mem.adopt {ρ:Pl} {w0:E5 Φ} {h:Tr CB} {nx:Nat} {w:World} (hm:Mem ρ w0 h nx w) (hf:nx<uW) {b:CB} {o:Obj} {s p:Nat} (hst:Yl b=nx) (hp:w0.w.heap.size≤p) (ho:w.heap[p]?=some o) (hun:∀ t b,h.get t=some b→(ρ t).1≠p) (hb:DB nx ρ s b o) :
 ∃ ρ',F8 nx ρ ρ'∧ρ' nx=(p,s)∧Mem ρ' w0 (h.set (some b) uW nx) (nx+1) w:=by
 have hext:F8 nx ρ (fun t=>if t=nx then (p,s) else ρ t):=fun t ht=>by simp [tN ht]
 have get:=fun j=>fE (some b) uW h nx j hf;refine ⟨fun t=>if t=nx then (p,s) else ρ t,hext,by simp,⟨hm.upd,?_,?_,hm.imm,hm.nod,fun c hc=>?_⟩⟩
 · intro t b' ht;rw [get] at ht;by_cases e:t=nx
   · subst e;rw [aM rfl] at ht;cases ht;simp only [fI];exact ⟨by omega,by omega,hp,o,ho,hb.up (dL _) hext⟩
   rw [aE e] at ht;obtain ⟨h1,hs1,h2,o',h3,h4⟩:=hm.own t b' ht;simp only [e,fJ];exact ⟨by omega,by omega,h2,o',h3,h4.up (dL _) hext⟩
 · intro t t' b1 b2 h1 h2 he;rw [get] at h1 h2;by_cases e:t=nx <;> by_cases e':t'=nx
   · rw [e,e']
   · rw [aE e'] at h2;simp only [e,e',fI,fJ] at he;exact absurd he.symm (hun _ _ h2)
   · rw [aE e] at h1;simp only [e,e',fI,fJ] at he;exact absurd he (hun _ _ h1)
   rw [aE e] at h1;rw [aE e'] at h2;simp only [e,e',fJ] at he;exact hm.one t t' b1 b2 h1 h2 he
 obtain ⟨k1,k2,k3⟩:=hm.kept c hc;refine ⟨k1,k2,fun t b' ht=>?_⟩;rw [get] at ht;by_cases e:t=nx
 · simp only [e,fI];intro e2;rw [e2,k2] at ho;cases ho;exact Yy hb _ U
 rw [aE e] at ht;simp only [e,fJ];exact k3 t b' ht
theorem Nx.adopt {ρs ρ ρ':Pl} {hs h:Tr CB} {Nc nx p s:Nat} {ws w:World} {b:CB} (hn:Nx ρs hs Nc ws ρ h nx w) (hf:nx<uW) (hst:Yl b=nx) (he:F8 nx ρ ρ') (hp:ρ' nx=(p,s)) (hge:ws.heap.size≤p) (hlt:∀ t c,h.get t=some c→t<nx):Nx ρs hs Nc ws ρ' (h.set (some b) uW nx) (nx+1) w:=by
 have get:=fun j=>fE (some b) uW h nx j hf;refine ⟨tP hn.le,hf,hn.ext.trans he hn.le,⟨fun t c ht hst'=>?_,hn.old.fr,fun t c ht=>?_,hn.old.sz⟩⟩
 · rw [get] at ht;by_cases e:t=nx
   · rw [aM e] at ht;cases ht;have:=hn.le;omega
   rw [aE e] at ht;exact hn.old.old t c ht hst'
 rw [get] at ht;by_cases e:t=nx
 · rw [e,hp];exact .inl hge
 rw [aE e] at ht;rw [he t (hlt t c ht)];exact hn.old.nw t c ht
theorem DI {ih:C5→B3} (H:∀ c,uP P Φ c (ih c)) (l:List Oper) (i:Nat) (R:List Nat) (plan:List (Nat×Pk)) (pend:List (Nat×Nat×Nat)) (n:Nat) (E:Tr CV) (h:Tr CB) (nx:Nat):uP P Φ (.reg l ((i,.make R) :: plan) pend n E h nx) (step P pr ih (.reg l ((i,.make R) :: plan) pend n E h nx)):=by
 show uP P Φ _ (match Ic l i with
  | some o=>bif Ax P l R n (vO l R E) h nx then (match wm P (vO l R E) h nx o.op with
   | .val c h nx=>(match Ab (vO l R E) n o.dst c with | some E=>ih (.reg l plan (vE o pend) n E h nx) | none=>.bad 33 [o])
   | _=>.bad 34 [o]) else .bad 35 [o]
  | none=>.bad 31 [])
 split
 · rename_i o ho;rw [zE] at ho;have ho':l.toArray[i]?=some o:=by simpa using ho
   refine uU (uP P Φ _) (fun hrq=>?_) fun _=>trivial;split
   · rename_i c h' nx' hw;split
     · rename_i E' hp;have H2:=H (.reg l plan (vE o pend) n E' h' nx');generalize ih (.reg l plan (vE o pend) n E' h' nx')=q2 at H2;cases q2 with
       | bad=>trivial
       | ret v h2 nx2=>exact H2.elim
       | ok x2 E2 h2 nx2 =>
         obtain ⟨rfl,H2⟩:=H2;refine ⟨U,fun ρ ρs w0 a w ws hs Nc L Lm Rc S cs f hI hf hn hns hpl hlen K hK=>?_⟩;obtain ⟨hro,⟨o',ho2,hmk⟩,hpl2⟩:=hpl;rw [ho] at ho2;cases ho2;obtain ⟨s1,s2,s3,⟨xs,s4⟩,_,s6⟩:=Fq hmk;have hlt:=Wn hn hrq;have hI':=hI.rel.less (Wm (E:=E) hlt);by_cases hin:∃ e∈S,e.j=i
         · -- it was run ahead
           obtain ⟨e,he,hei⟩:=hin;obtain ⟨A,B,rfl⟩:=NS he;obtain ⟨b,s,ob,V,rfl,rfl,hft,hstb,hdb,hkn,hex⟩:=TX hI'.slots s4 hw;obtain ⟨⟨oj,d,h1,h2,h3,h4,h5⟩,g1,g2,g3,g4⟩:=hI.eok e he;rw [hei,ho] at h1;cases h1;obtain ⟨dst,op,ty,pos,after,g⟩:=o;have hsame:∀ w2:World,e.V w2.heap.size=V w2.heap.size∧w2.alloc e.o=w2.alloc ob:=fun w2=>by
            have q1:=h5 w2;rw [hex w2 dst ty pos after g] at q1;simp only [Result.ok.injEq,Next.value.injEq] at q1;exact ⟨q1.1.symm,q1.2.symm⟩
           have hV:∀ k:Nat,e.V k=V k:=fun k=>by
            have:=(hsame { w with heap:=Array.replicate k default }).1;simpa using this
           have hob:e.o=ob:=by
            have h9:=(hsame w).2;have h10:(w.alloc e.o).heap[w.heap.size]?=(w.alloc ob).heap[w.heap.size]?:=by rw [h9]
            rw [vQ,vQ] at h10;exact gH h10
           have hm:=hI.rel.mem;obtain ⟨os,hR⟩:=hI';obtain ⟨ρ',x1,x2,m2⟩:=hR.mem.adopt (s:=s) (p:=e.p) (o:=ob) hft hstb (aP (show (w0.plus os).w.heap.size≤ws.heap.size from hI.ms.upd.size) g3) (by rw [←hob];exact g2) g4 hdb;obtain ⟨nd1,nd2⟩:=Si (·.j) hI.ndj;obtain ⟨nd3,nd4⟩:=Si (·.p) hI.ndp;have hsub:∀ x∈A++B,x∈A++e :: B:=fun x hx=>(eL.1 hx).elim (fun h=>jU _ h) fun h=>kS _ (bD _ h);have hdn:∃ E1,E1=E'∧B4 ρ' E1 (nx+1) n a:=by
            have hd':dst=some d:=h3;subst hd';have hp':(bif Nat.ble (Nat.succ d) n then some ((vO l R E).set (some c) uW d) else none)=some E':=hp;rcases uN hp' with ⟨q1,q2⟩ | ⟨_,q2⟩
            · cases q2;have hsl:=hR.slots.up (dL _) x1;refine ⟨_,U,hsl.1,fun k x hx=>?_⟩;have hdn:=vC q1;rw [fE (some c) uW _ d k (by rw [Rm];omega)] at hx;by_cases e2:k=d
              · subst e2;rw [aM rfl] at hx;cases hx;exact ⟨_,h4,by rw [hV];exact hkn ρ' e.p x2⟩
              rw [aE e2] at hx;exact hsl.2 k x hx
            cases q2
           obtain ⟨E1,rfl,hsl⟩:=hdn;refine H2 ρ' ρs w0 a w ws hs Nc _ Lm R (A++B) cs f ⟨⟨os,hsl,hR.defers,m2,hR.mks,hR.ss⟩,?_,hI.down,?_,nd1,nd3,fun x hx=>?_,?_,hI.ms,hI.nxb.adopt hft hstb x1 x2 g3 fun t c ht=>(hm.own t c ht).1⟩ hft hn hns hpl2 ?_ K hK
           · have:=hI.lr.adopt hI.ndj;rw [hei] at this;exact this
           · intro x hx;exact (hro.sub _ (hI.sub x (hsub x hx))).resolve_left (fun e2=>nd2 x hx (e2.trans hei.symm))
           · obtain ⟨f1,f2,f3,f4,f5⟩:=hI.eok x (hsub x hx);refine ⟨f1,f2,f3,f4,fun t b' ht=>?_⟩;rw [fE (some b) uW h nx t hft] at ht;by_cases e2:t=nx
             · rw [e2,x2];exact fun e3=>nd4 x hx e3.symm
             rw [aE e2] at ht;rw [x1 t (hm.own t b' ht).1];exact f5 t b' ht
           · intro x hx;rcases hI.pend x hx with h6 | ⟨t,b',h6,h7,h8,h9,h10⟩
             · exact .inl h6
             rcases Mc (Lm:=Lm) ho ((hI.lr.iff i).2 (.inr ⟨e,he,hei⟩)) _ _ _ h6 with h11 | h11
             · exact .inr ⟨t,b',h11,Nat.lt_succ_of_lt h7,by rw [x1 t h7];exact h8,tP h9,h10⟩
             exact .inl ⟨i,h11.1,h11.2⟩
           simp only [aI,bN] at hlen ⊢;omega
         -- it is run now
         have hSi:∀ e∈S,e.j≠i:=fun e he hei=>hin ⟨e,he,hei⟩;refine JN (E:=vO l R E) (pl:=plan.length) hf hn hro (fun j hj d hd=>Sh hlt hj hd) hrq ?_ ?_ f a w Lm S ⟨hI',hI.lr,hI.down,fun e he=>jU _ (hI.sub e he),hI.ndj,hI.ndp,hI.eok,hI.pend,hI.ms,hI.nxb⟩ hSi (by rw [←hlen,bN])
         · intro S hs hni hnd;exact Sg hpl2 (fun e he=>(hs e he).elim (fun h=>(hro.sub _ h).resolve_left (hni e he)) id) hnd
         intro a w Lm S f hI hSi hlen hir;have hsR:∀ e∈S,e.j∈R:=fun e he=>(eL.1 (hI.sub e he)).elim (fun h=>(hro.sub _ h).resolve_left (hSi e he)) id;obtain ⟨b,s,ob,V,rfl,rfl,hft,hstb,hdb,hkn,hex⟩:=TX hI.rel.slots s4 hw;obtain ⟨dst,op,ty,pos,after,g⟩:=o;obtain ⟨os,hR⟩:=hI.rel;obtain ⟨ρ',x1,x2,m2,o2⟩:=hR.mem.new (s:=s) hft hstb (wQ w ob) (wV w ob) (vQ w ob) hdb;have hg:g=none:=s3;subst hg;unfold stp;simp only [ho',Region.wanted,fI];unfold Ag;rw [hex w dst ty pos after none];have e1:Nx ρ h nx w ρ' (h.set (some b) uW nx) (nx+1) (w.alloc ob):=⟨dL _,hft,x1,o2⟩
         refine H2 ρ' ρs w0 _ _ ws hs Nc _ _ R S cs f ⟨⟨os,xU (hR.slots.up (dL _) x1) hn hp (hkn ρ' _ x2),(Bz _ _ _).trans hR.defers,m2,hR.mks,aP hR.ss o2.sz⟩,hI.lr.set (xI.1 (fS.1 hro.rd).1).1 hSi,Dj hI.down hir,hsR,hI.ndj,hI.ndp,fun e he=>?_,?_,hI.ms,hI.nxb.trans hI.ms e1⟩ hft hn hns hpl2 hlen K hK
         · refine (hI.eok e he).keep (o:=⟨dst,op,ty,pos,after,none⟩) (qK _ _ _) (fun oj hoj=>?_) o2;obtain ⟨ok',f1,f2,f3,f4,f5⟩:=hro.mks e.j (hsR e he);rw [hoj] at f1;cases f1;exact f4 _ ho
         exact Mb hI.pend (dL _) x1 alloc_old (Mc (Lm:=Lm.setIfInBounds i true) ho (GN (fS.1 hir).1))
     trivial
   trivial
 trivial
theorem Dk {ih:C5→B3} (H:∀ c,uP P Φ c (ih c)) (l:List Oper) (plan:List (Nat×Pk)) (pend:List (Nat×Nat×Nat)) (n:Nat) (E:Tr CV) (h:Tr CB) (nx:Nat):uP P Φ (.reg l plan pend n E h nx) (step P pr ih (.reg l plan pend n E h nx)):=by
 cases plan with
 | nil =>
   refine ⟨U,fun ρ ρs w0 a w ws hs Nc L Lm Rc S cs f hI hf hn hns hpl hlen K hK=>?_⟩;obtain ⟨h1,rfl⟩:=hpl;have hS:S=[]:=jI.2 fun e he=>by cases hI.sub e he
   subst hS;have hf0:f=0:=by simpa using hlen.symm
   subst hf0;have hnil:Region.ready .any l.toArray Lm=[]:=jI.2 fun j hj=>by
    have h3:=hI.lr.nil hj;rw [h1] at h3;cases h3
   exact ⟨hI.pend.cp,hnil,hK ρ a w hI.nxb hI.rel⟩
 | cons q plan =>
   obtain ⟨i,k⟩:=q;cases k with
   | look=>exact DF H l i plan pend n E h nx
   | only=>exact DG H l i plan pend n E h nx
   | race R=>exact DH H l i R plan pend n E h nx
   | make R=>exact DI H l i R plan pend n E h nx
end
section
variable {P:Program} {Φ:A3→Prop} {pr:wH}
def Ca (P:Program) (Φ:A3→Prop) (pr:wH):Prop:=∀ f g,uy pr f=some g→wJ P f∧∀ args v,g args=some v→∀ G,Φ G→∀ nx ρ vs,KL nx ρ args vs→∃ u,Kn nx ρ v u∧Does P f vs G [] (fun x G' Ho=>x=u∧G'=G∧Ho=[])
theorem Wp {fn:Func} {n nx':Nat} {ρ':Pl} {w0:E5 Φ} {E':Tr CV} {h':Tr CB} {a:Act} {v:CV} {R:Ending→World→Prop} (hs:B4 ρ' E' nx' n a) (hv:CX P E' h' fn.results.toList=some v) :
 ∀ (os:List Nat) (w:World),w0.s≤w.heap.size→Mem ρ' (w0.plus os) h' nx' w→(∀ w' u,Kn nx' ρ' v u→Mem ρ' w0 h' nx' w'→H6 (·∈os) ρ' h' nx' w ρ' h' w'→R (.returned u) w')→LeavesInM (FF none) 0 P fn a.tmps R (os.map mark) .returning w
 | [],w,hss,hm,hK=>by
   have hR:F1 ρ' w0 n E' h' nx' { a with defers:=[] } w:=⟨[],hs,U,hm,fun b hb=>(by cases hb),hss⟩
   obtain ⟨u,k1,k2⟩:=YX hR hv;exact ⟨u,k2,hK w u k1 hm gW⟩
 | b :: os,w,hss,hm,hK=>by
   have hb:=(hm.kept b (bM ..)).2.1;obtain ⟨m2,o2⟩:=hm.shut;refine ⟨by simp,.inl ⟨b,_,rfl,run_takeDeferred hb,Wp hs hv os _ (aP hss o2.sz) m2 fun w' u q1 q2 q3=>hK w' u q1 q2 ?_⟩⟩;exact ⟨fun t c hc hst=>⟨(q3.old t c hc hst).1,(q3.old t c hc hst).2.trans (o2.old t c (q3.old t c hc hst).1 hst).2⟩,fun p hp hu hx=>(q3.fr p (bW hp o2.sz) hu (fun e=>hx (bD _ e))).trans (o2.fr p hp hu (fun e=>hx (by rw [e];exact bM ..))),fun t b' hb'=>.inr ⟨t,b',hb',U⟩,aP o2.sz q3.sz⟩
theorem Wq {ih:C5→B3} (hpr:Ca P Φ pr) (H:∀ c,uP P Φ c (ih c)) (f:Nat) (args:CV) (h:Tr CB) (nx:Nat):uP P Φ (.call f args h nx) (step P pr ih (.call f args h nx)):=by
 show uP P Φ _ (match uy pr f with
  | some g=>(match g args with | some v=>.ret v h nx | none=>.bad 60 [])
  | none=>match pj P f with
  | some fn=>(match fn.body with
    | some c=>bif Nat.ble (vP args) fn.ntmps && Nat.ble fn.ntmps 100000 then (match ih (.code c fn.ntmps (CW args 0 .e) h nx) with
      | .ok x E h nx=>(match x with
        | .normal=>(match CX P E h fn.results.toList with | some v=>.ret v h nx | none=>.bad 16 [])
        | .ret=>(match CX P E h fn.results.toList with | some v=>.ret v h nx | none=>.bad 16 [])
        | _=>.bad 17 [])
      | .ret _ _ _=>.bad 18 []
      | r=>r) else .bad 19 []
    | none=>.bad 20 [])
  | none=>.bad 21 [])
 split
 · rename_i g hg;split
   · rename_i v hv;obtain ⟨p1,p2⟩:=hpr f g hg;refine ⟨p1,fun ρ w0 w vs hm hk hfit=>?_⟩;obtain ⟨u,k1,k2⟩:=p2 args v hv w0.G w0.ok nx ρ vs hk;have hw:B6 [] w0.G w:=⟨fun t b o ht=>Ie,fun t t' b o o' ht=>Ie,fun b o hb=>(hm.upd.same b (cK.1 (hm.imm b o hb)).1 id).trans (hm.imm b o hb),fun t b o ht=>Ie⟩
     refine (k2 w hw).mono fun x w' ⟨v',G',Ho,h1,h2,h3,h4,h5,h6,h7⟩=>?_;obtain ⟨rfl,_,_⟩:=h7;have hu:D2 (fun _=>False) w w':=h4.mono fun k hk hx=>by obtain ⟨t,o,ht⟩:=hx;cases ht
     obtain ⟨m1,o1⟩:=hm.grow hu;exact ⟨v',ρ,h1,⟨aG _,hfit,dT _ _,o1⟩,k1,m1⟩
   trivial
 split
 · rename_i fn hfn;obtain ⟨hf,hname⟩:=ff hfn;split
   · rename_i c hb;cases hl:Nat.ble (vP args) fn.ntmps && Nat.ble fn.ntmps 100000 with
     | false=>trivial
     | true =>
       simp only [aB] at hl;have hl1:=vC hl.1;have hl2:=vC hl.2;simp only [iA];have H1:=H (.code c fn.ntmps (CW args 0 .e) h nx);generalize ih (.code c fn.ntmps (CW args 0 .e) h nx)=q at H1;cases q with
       | bad=>trivial
       | ret _ _ _=>trivial
       | ok x E' h' nx' =>
         have go:(x=.normal∨x=.ret)→uP P Φ (.call f args h nx) (match CX P E' h' fn.results.toList with | some v=>.ret v h' nx' | none=>.bad 16 []):=fun hx=>by
          split
          · rename_i v hv;refine ⟨⟨fn,hf,by rw [hb];rfl,hname⟩,fun ρ w00 w vs hm hk hfit=>?_⟩;obtain ⟨W0,ks0,G0,ok0,s0⟩:=w00;replace hm:=hm.base (s':=w.heap.size);obtain ⟨w0,hw0⟩:∃ w0:E5 Φ,w0=⟨W0,ks0,G0,ok0,w.heap.size⟩:=⟨_,U⟩
            rw [←hw0] at hm;have hlen:=vS hk;have hR:F1 ρ w0 fn.ntmps (CW args 0 .e) h nx { tmps:=vs.toArray++Array.replicate (fn.ntmps - vs.toArray.size) undef,defers:=[] } w:=by
             refine ⟨[],⟨by simp;omega,fun i y hy=>?_⟩,U,hm,fun b hb=>(by cases hb),by rw [hw0];exact aG _⟩;rcases YV hk 0 .e uJ i y hy with ⟨_,u,h1,h2⟩ | h1
             · refine ⟨u,?_,h2⟩;have h1':vs[i]?=some u:=by simpa using h1
               have hlt:i<vs.length:=(aR.1 h1').1;show (vs.toArray++Array.replicate (fn.ntmps - vs.toArray.size) undef)[i]?=some u;rw [qP (by simpa using hlt)];simpa using h1'
             cases h1
            refine zS.1 (callsIn_of_wp_marks (F:=FF none) (n:=0) hf hb I8 (H1 none ρ w0 _ w hR hfit hl2 (.inl U) _ fun ρ' a' w' e1 e2=>?_));obtain ⟨os,e2⟩:=e2;have key:LeavesInM (FF none) 0 P fn a'.tmps (fun e w'=>∃ u ρ',e=.returned u∧Nx ρ h nx w ρ' h' nx' w'∧Kn nx' ρ' v u∧Mem ρ' ⟨W0,ks0,G0,ok0,s0⟩ h' nx' w') a'.defers .returning w':=by
             rw [e2.defers];exact Wp e2.slots hv os w' e2.ss e2.mem fun w2 u q1 q2 q3=>⟨u,ρ',U,⟨e1.le,e1.fit,e1.ext,My hm e1.old q3 (fun p hp=>by have:=e2.mks p hp;rw [hw0] at this;exact this) e1.le e1.ext⟩,q1,by rw [hw0] at q2;exact q2.base⟩
            rcases hx with rfl | rfl <;> exact key
          trivial
         cases x with
         | normal=>exact go (.inl U)
         | ret=>exact go (.inr U)
         | _=>trivial
   trivial
 trivial
theorem run_ok (hpr:Ca P Φ pr) (fuel:Nat):∀ c,uP P Φ c (run P pr fuel c):=by
 induction fuel with
 | zero=>intro c;show uP P Φ c (.bad 0 []);cases c <;> trivial
 | succ fuel ih =>
   intro c;show uP P Φ c (step P pr (run P pr fuel) c);cases c with
   | code c n E h nx=>exact Ac ih c n E h nx
   | loop c n E h nx=>exact step_loop ih c n E h nx
   | ops all l n E h nx=>exact Kj ih all l n E h nx
   | one o n E h nx=>exact Di ih o n E h nx
   | call f args h nx=>exact Wq hpr ih f args h nx
   | round t args h nx=>exact Se ih t args h nx
   | reg l plan pend n E h nx=>exact Dk ih l plan pend n E h nx
def UB (r:B3):Bool:=match r with | .ret (.bool b) _ _=>b | _=>false
theorem NT {f:Nat} {q:B3} (H:uP P Φ (.call f .nil .e 0) q) (h:UB q=true) (G:A3) (hG:Φ G):Does P f [] G [] (fun v G' Ho=>v=.bool true∧G'=G∧Ho=[]):=by
 intro w hw;cases q with
 | bad=>cases h
 | ok _ _ _ _=>cases h
 | ret v h' nx' =>
   cases v with
   | bool b =>
     have hb:b=true:=h;subst hb;have hm:Mem (fun _=>(0,0)) (⟨w,[],G,hG,0⟩:E5 Φ) .e 0 w:=⟨lE _ _,fun t b ht=>Ie,fun t t' b b' ht=>Ie,fun b o hb=>hw.imm b o hb,mS,fun b hb=>by cases hb⟩
     refine (H.2 (fun _=>(0,0)) ⟨w,[],G,hG,0⟩ w [] hm pA (aS _)).mono fun e w' ⟨u,ρ',h1,h2,h3,h4⟩=>?_;have h5:=sV.1 h3.2;subst h5;refine ⟨.bool true,G,[],h1,⟨fun t b o ht=>Ie,fun t t' b o o' ht=>Ie,fun b o hb=>?_,fun t b o ht=>Ie⟩,cC _,h4.upd.mono fun k hk hx=>hx.elim,fun b h0 h1=>absurd h1 h0,fun t b o ht=>Ie,U,U,U⟩;rw [h4.upd.same b (hw.ltG hb) id];exact hw.imm b o hb
   | _=>cases h
end
structure Gt where
 run:Tr CV→Option CV
structure St where
 run:CV→Tr CV→Tr CV
def gt (f:Nat):Nat→Gt:=
 Nat.rec (motive:=fun _=>Nat→Gt) (fun _=>⟨fun _=>none⟩) (fun _ ih k=>Nat.rec (motive:=fun _=>Gt) ⟨fun E=>Tr.rec (motive:=fun _=>Option CV) none (fun x _ _ _ _ _ _ _ _=>x) E⟩
  (fun m _=>s4 (⟨fun E=>Tr.rec (motive:=fun _=>Option CV) none (fun _ a _ _ _ _ _ _ _=>(ih (Nat.div m 4)).run a) E⟩:Gt) ⟨fun E=>Tr.rec (motive:=fun _=>Option CV) none (fun _ _ b _ _ _ _ _ _=>(ih (Nat.div m 4)).run b) E⟩
   ⟨fun E=>Tr.rec (motive:=fun _=>Option CV) none (fun _ _ _ c _ _ _ _ _=>(ih (Nat.div m 4)).run c) E⟩ ⟨fun E=>Tr.rec (motive:=fun _=>Option CV) none (fun _ _ _ _ d _ _ _ _=>(ih (Nat.div m 4)).run d) E⟩ (Nat.mod m 4)) k) f
def st (f:Nat):Nat→St:=
 Nat.rec (motive:=fun _=>Nat→St) (fun _=>⟨fun _ E=>E⟩) (fun _ ih k=>Nat.rec (motive:=fun _=>St) ⟨fun v E=>Tr.rec (motive:=fun _=>Tr CV) (.n (some v) .e .e .e .e) (fun _ a b c d _ _ _ _=>.n (some v) a b c d) E⟩
  (fun m _=>s4 (⟨fun v E=>Tr.rec (motive:=fun _=>Tr CV) (.n none ((ih (Nat.div m 4)).run v .e) .e .e .e) (fun x a b c d _ _ _ _=>.n x ((ih (Nat.div m 4)).run v a) b c d) E⟩:St)
   ⟨fun v E=>Tr.rec (motive:=fun _=>Tr CV) (.n none .e ((ih (Nat.div m 4)).run v .e) .e .e) (fun x a b c d _ _ _ _=>.n x a ((ih (Nat.div m 4)).run v b) c d) E⟩
   ⟨fun v E=>Tr.rec (motive:=fun _=>Tr CV) (.n none .e .e ((ih (Nat.div m 4)).run v .e) .e) (fun x a b c d _ _ _ _=>.n x a b ((ih (Nat.div m 4)).run v c) d) E⟩
   ⟨fun v E=>Tr.rec (motive:=fun _=>Tr CV) (.n none .e .e .e ((ih (Nat.div m 4)).run v .e)) (fun x a b c d _ _ _ _=>.n x a b c ((ih (Nat.div m 4)).run v d)) E⟩ (Nat.mod m 4)) k) f
theorem np:∀ (f k:Nat) (E:Tr CV),k<f→(gt f k).run E=E.get k:=by
 intro f;induction f with
 | zero=>intro k E h;omega
 | succ f ih =>
   intro k E h;cases k with
   | zero=>cases E <;> rfl
   | succ m =>
     have hm:Nat.div m 4<f:=by show m / 4<f;omega
     show (s4 (⟨fun E=>Tr.rec (motive:=fun _=>Option CV) none (fun _ a _ _ _ _ _ _ _=>(gt f (Nat.div m 4)).run a) E⟩:Gt) ⟨fun E=>Tr.rec (motive:=fun _=>Option CV) none (fun _ _ b _ _ _ _ _ _=>(gt f (Nat.div m 4)).run b) E⟩
      ⟨fun E=>Tr.rec (motive:=fun _=>Option CV) none (fun _ _ _ c _ _ _ _ _=>(gt f (Nat.div m 4)).run c) E⟩ ⟨fun E=>Tr.rec (motive:=fun _=>Option CV) none (fun _ _ _ _ d _ _ _ _=>(gt f (Nat.div m 4)).run d) E⟩ (Nat.mod m 4)).run E=_
     rcases FY m with h1 | h1 | h1 | h1 <;> rw [h1] <;> cases E with
      | e=>rfl
      | n x a b c d=>rw [Ra,h1];exact ih _ _ hm
theorem nq (v:CV):∀ (f k:Nat) (E:Tr CV),(st f k).run v E=E.set (some v) f k:=by
 intro f;induction f with
 | zero=>intro k E;rfl
 | succ f ih =>
   intro k E;cases k with
   | zero=>cases E <;> rfl
   | succ m =>
     show (s4 (⟨fun v E=>Tr.rec (motive:=fun _=>Tr CV) (.n none ((st f (Nat.div m 4)).run v .e) .e .e .e) (fun x a b c d _ _ _ _=>.n x ((st f (Nat.div m 4)).run v a) b c d) E⟩:St)
      ⟨fun v E=>Tr.rec (motive:=fun _=>Tr CV) (.n none .e ((st f (Nat.div m 4)).run v .e) .e .e) (fun x a b c d _ _ _ _=>.n x a ((st f (Nat.div m 4)).run v b) c d) E⟩
      ⟨fun v E=>Tr.rec (motive:=fun _=>Tr CV) (.n none .e .e ((st f (Nat.div m 4)).run v .e) .e) (fun x a b c d _ _ _ _=>.n x a b ((st f (Nat.div m 4)).run v c) d) E⟩
      ⟨fun v E=>Tr.rec (motive:=fun _=>Tr CV) (.n none .e .e .e ((st f (Nat.div m 4)).run v .e)) (fun x a b c d _ _ _ _=>.n x a b c ((st f (Nat.div m 4)).run v d)) E⟩ (Nat.mod m 4)).run v E=_
     cases E with
     | e=>rw [CN,Rb];rcases FY m with h1 | h1 | h1 | h1 <;> rw [h1] <;> simp only [dh,di,dj,dk,ih]
     | n x a b c d=>rw [Rb];rcases FY m with h1 | h1 | h1 | h1 <;> rw [h1] <;> simp only [dh,di,dj,dk,ih]
abbrev Kt:=Tr CV→Tr CB→Nat→B3
abbrev Kx:=Exit→Tr CV→Tr CB→Nat→B3
def Md (run:Kt→B3) (S:Tr CV→Tr CB→Nat→Prop):Prop:=(∃ why o,∀ k,run k=.bad why o)∨∃ E' h' nx',(∀ k,run k=k E' h' nx')∧S E' h' nx'
def Sj (run:Kx→B3) (S:Exit→Tr CV→Tr CB→Nat→Prop):Prop:=(∃ why o,∀ k,run k=.bad why o)∨∃ x E' h' nx',(∀ k,run k=k x E' h' nx')∧S x E' h' nx'
structure Co where
 run:(C5→B3)→Tr CV→Tr CB→Nat→Kt→B3
structure Cd where
 run:(C5→B3)→Tr CV→Tr CB→Nat→Kx→B3
section
variable (P:Program) (Φ:A3→Prop)
def GO (ih:C5→B3):Prop:=∀ c,uP P Φ c (ih c)
def GP (co:Co) (o:Oper) (n:Nat):Prop:=∀ ih,GO P Φ ih→∀ E h nx,Md (co.run ih E h nx) (fun E' h' nx'=>uP P Φ (.one o n E h nx) (.ok .normal E' h' nx'))
def NU (cd:Cd) (c:Code) (n:Nat):Prop:=∀ ih,GO P Φ ih→∀ E h nx,Sj (cd.run ih E h nx) (fun x E' h' nx'=>uP P Φ (.code c n E h nx) (.ok x E' h' nx'))
end
def Ws (P:Program) (pr:wH) (o:Oper) (n:Nat):Co:=⟨fun ih E h nx k=>match step P pr ih (.one o n E h nx) with
 | .ok _ E h nx=>k E h nx
 | .ret _ _ _=>.bad 70 []
 | .bad w a=>.bad w a⟩
def UC (c:C5):Bool:=match c with | .ops ..=>true | .one ..=>true | .reg ..=>true | .code ..=>true | .loop ..=>true | _=>false
def UD (P:Program) (pr:wH) (ih:C5→B3) (F:Nat):C5→B3:=Nat.rec (motive:=fun _=>C5→B3) (fun _=>.bad 71 []) (fun _ r c=>step P pr (fun c=>bif UC c then r c else ih c) c) F
def DJ (P:Program) (pr:wH) (c:Code) (n:Nat):Cd:=⟨fun ih E h nx k=>match UD P pr ih 10000 (.code c n E h nx) with
 | .ok x E h nx=>k x E h nx
 | .ret _ _ _=>.bad 72 []
 | .bad w a=>.bad w a⟩
section
variable {P:Program} {Φ:A3→Prop} {pr:wH}
theorem Sk (hpr:Ca P Φ pr) {ih:C5→B3} (H:GO P Φ ih):GO P Φ (step P pr ih):=fun c=>by
 cases c with
 | code c n E h nx=>exact Ac H c n E h nx
 | loop c n E h nx=>exact step_loop H c n E h nx
 | ops all l n E h nx=>exact Kj H all l n E h nx
 | one o n E h nx=>exact Di H o n E h nx
 | call f args h nx=>exact Wq hpr H f args h nx
 | round t args h nx=>exact Se H t args h nx
 | reg l plan pend n E h nx=>exact Dk H l plan pend n E h nx
theorem Ck:GO P Φ (fun _=>.bad 0 []):=fun c=>by cases c <;> trivial
theorem Fs (c:C5) (w:Nat) (a:List Oper):uP P Φ c (.bad w a):=by cases c <;> trivial
theorem Ad (o:Oper) (n:Nat):GP P Φ (Ws P pr o n) o n:=fun ih H E h nx=>by
 have H1:=Di (pr:=pr) H o n E h nx;show Md (fun k=>match step P pr ih (.one o n E h nx) with | .ok _ E h nx=>k E h nx | .ret _ _ _=>.bad 70 [] | .bad w a=>.bad w a) _;generalize step P pr ih (.one o n E h nx)=q at H1;cases q with
 | bad w a=>exact .inl ⟨w,a,fun k=>rfl⟩
 | ret v h' nx'=>exact .inl ⟨70,[],fun k=>rfl⟩
 | ok x E' h' nx' =>
   have hx:x=.normal:=H1.1;subst hx;exact .inr ⟨E',h',nx',fun k=>rfl,H1⟩
theorem UE (hpr:Ca P Φ pr) {ih:C5→B3} (H:GO P Φ ih) (F:Nat):GO P Φ (UD P pr ih F):=by
 induction F with
 | zero=>intro c;exact Fs c 71 []
 | succ F r =>
   refine Sk hpr fun c=>?_;show uP P Φ c (bif UC c then UD P pr ih F c else ih c);cases UC c with
   | true=>exact r c
   | false=>exact H c
theorem Kk (hpr:Ca P Φ pr) (c:Code) (n:Nat):NU P Φ (DJ P pr c n) c n:=fun ih H E h nx=>by
 have H1:=UE hpr H 10000 (.code c n E h nx);show Sj (fun k=>match UD P pr ih 10000 (.code c n E h nx) with | .ok x E h nx=>k x E h nx | .ret _ _ _=>.bad 72 [] | .bad w a=>.bad w a) _;generalize UD P pr ih 10000 (.code c n E h nx)=q at H1;cases q with
 | bad w a=>exact .inl ⟨w,a,fun k=>rfl⟩
 | ret v h' nx'=>exact .inl ⟨72,[],fun k=>rfl⟩
 | ok x E' h' nx'=>exact .inr ⟨x,E',h',nx',fun k=>rfl,H1⟩
end
def Yz:Operand→Gt
 | .tmp t=>gt (Nat.succ t) t
 | .const v=>Option.rec (motive:=fun _=>Gt) ⟨fun _=>none⟩ (fun c=>⟨fun _=>some c⟩) (ZQ v)
 | .func f=>⟨fun _=>some (.fn f .nil .nil)⟩
 | .global _=>⟨fun _=>none⟩
theorem zL (x:Operand) (E:Tr CV):(Yz x).run E=wA E x:=by
 cases x with
 | tmp t=>exact np _ _ _ (dB t)
 | const v =>
   show (Option.rec (motive:=fun _=>Gt) ⟨fun _=>none⟩ (fun c=>⟨fun _=>some c⟩) (ZQ v):Gt).run E=ZQ v;cases ZQ v <;> rfl
 | func f=>rfl
 | global g=>rfl
def GQ (n:Nat):Option Nat→Option St
 | none=>some ⟨fun _ E=>E⟩
 | some d=>bif Nat.ble (Nat.succ d) n then some (st uW d) else none
theorem Oa {n:Nat} {d:Option Nat} {p:St} (h:GQ n d=some p) (E:Tr CV) (v:CV):Ab E n d v=some (p.run v E):=by
 cases d with
 | none=>cases h;rfl
 | some d =>
   have h':(bif Nat.ble (Nat.succ d) n then some (st uW d) else none)=some p:=h;rcases uN h' with ⟨h1,h2⟩ | ⟨_,h2⟩
   · cases h2;show (bif Nat.ble (Nat.succ d) n then some (E.set (some v) uW d) else none)=_;rw [h1,nq];rfl
   cases h2
structure Bi where
 run:IntKind→Int→Int→Option CV
def nr:BinOp→Bi
 | .add=>⟨fun k m n=>bo .add k m n⟩
 | o=>⟨fun k m n=>bo o k m n⟩
def Dl (P:Program) (pr:wH) (o:Oper) (n:Nat) (p:St) (f:Tr CV→Tr CB→Option CV):Co:=
 ⟨fun ih E h nx k=>Option.rec (motive:=fun _=>B3) ((Ws P pr o n).run ih E h nx k) (fun c=>k (p.run c E) h nx) (f E h)⟩
def Ia (P:Program) (pr:wH) (o:Oper) (n:Nat) (p:St) (f:Tr CV→Tr CB→Nat→Ro):Co:=
 ⟨fun ih E h nx k=>Ro.rec (motive:=fun _=>B3) ((Ws P pr o n).run ih E h nx k) (fun c h nx=>k (p.run c E) h nx) (fun h nx=>match o.dst with | none=>k E h nx | some _=>.bad 10 []) (f E h nx)⟩
def UF (o:Oper) (n:Nat):Co:=
 ⟨fun ih E h nx k=>match Na ih E n h nx o.dst o.op with | .ok _ E h nx=>k E h nx | .ret _ _ _=>.bad 70 [] | .bad w a=>.bad w a⟩
def ZW (a b:Option CV) (f:IntKind→Int→Int→Option CV):Option CV:=
 Option.rec (motive:=fun _=>Option CV) none (fun a=>match a with
  | .int k m=>Option.rec (motive:=fun _=>Option CV) none (fun b=>match b with | .int k' n=>bif OB k k' then f k m n else none | _=>none) b
  | _=>none) a
def UG (P:Program) (pr:wH) (o:Oper) (n:Nat):Co:=match GQ n o.dst with
 | some p=>match o.op with
   | .move x=>Dl P pr o n p (fun E _=>(Yz x).run E)
   | .assign x=>Dl P pr o n p (fun E _=>(Yz x).run E)
   | .extract x i=>Dl P pr o n p (fun E _=>match (Yz x).run E with | some (.tup l)=>Lv l i | _=>none)
   | .nilCheck x=>Dl P pr o n p (fun E _=>match (Yz x).run E with | some (.ptr t o)=>some (.ptr t o) | _=>none)
   | .fieldAddr s x f=>(match ow P s f with
     | some j=>Dl P pr o n p (fun E _=>match (Yz x).run E with | some (.ptr t o)=>some (.ptr t (Nat.add o j)) | _=>none)
     | none=>Ws P pr o n)
   | .load T x=>bif xB P T then Dl P pr o n p (fun E h=>match (Yz x).run E with | some (.ptr t o)=>(match h.get t with | some (.cells l _ _ _)=>NC l o | _=>none) | _=>none) else Ws P pr o n
   | .pick c x y=>Dl P pr o n p (fun E _=>match (Yz c).run E with | some (.bool b)=>Bool.rec (motive:=fun _=>Option CV) ((Yz y).run E) ((Yz x).run E) b | _=>none)
   | .unOp .not _ x=>Dl P pr o n p (fun E _=>match (Yz x).run E with | some (.bool b)=>some (.bool (not b)) | _=>none)
   | .convert s t x=>(match P.underlying t with
     | some (.int k')=>(match P.underlying s with
       | some _=>Dl P pr o n p (fun E _=>match (Yz x).run E with | some (.int _ m)=>some (.int k' (wr k' m)) | _=>none)
       | none=>Ws P pr o n)
     | _=>Ws P pr o n)
   | .indexAddr T x i=>(match Vy P T with
     | some (_,sz')=>Dl P pr o n p (fun E _=>match (Yz i).run E with
       | some (.int _ m)=>(match (Yz x).run E with | some (.sl t o n sz _)=>bif Nat.beq sz sz' && (yK 0 m && not (yK n m)) then some (.ptr t (Nat.add o (Nat.mul m.toNat sz'))) else none | _=>none)
       | _=>none)
     | none=>Ws P pr o n)
   | .call ⟨.builtin .len,⟨[x]⟩,⟨[T]⟩⟩=>(match Vy P T with
     | some _=>Dl P pr o n p (fun E _=>match (Yz x).run E with | some (.sl _ _ n _ _)=>some (.int .i64 n) | some .nils=>some (.int .i64 0) | _=>none)
     | none=>Ws P pr o n)
   | .alloc T=>Ia P pr o n p (fun E h nx=>wv0 P E h nx T)
   | .box T x=>Ia P pr o n p (fun E h nx=>wv1 P E h nx T x)
   | .store T x y=>Ia P pr o n p (fun E h nx=>wv2 P E h nx T x y)
   | .buildSlice T m ⟨parts⟩=>Ia P pr o n p (fun E h nx=>wv3 P E h nx T m parts)
   | .makeSlice T x y=>Ia P pr o n p (fun E h nx=>wv4 P E h nx T x y)
   | .call ⟨.builtin .append,⟨[s,x]⟩,⟨[T,tx]⟩⟩=>Ia P pr o n p (fun E h nx=>pi P E h nx T tx s x)
   | .call ⟨.value f,args,ats⟩=>bif my P f then Ws P pr o n else UF o n
   | .binOp b t x y _=>(match b with
     | .shl=>Ws P pr o n
     | .shr=>Ws P pr o n
     | b=>Dl P pr o n p (fun E _=>ZW ((Yz x).run E) ((Yz y).run E) (nr b).run))
   | _=>Ws P pr o n
 | none=>Ws P pr o n
section
variable {P:Program} {Φ:A3→Prop} {pr:wH}
theorem NV {o:Oper} {n:Nat} {E:Tr CV} {h:Tr CB} {nx:Nat} {c:CV} {E':Tr CV} (hq:qv P E h o.op=some c) (hp:Ab E n o.dst c=some E'):uP P Φ (.one o n E h nx) (.ok .normal E' h nx):=by
 have H:=Di (pr:=[]) (Ck (P:=P) (Φ:=Φ)) o n E h nx;have e:step P [] (fun _=>.bad 0 []) (.one o n E h nx)=B3.ok .normal E' h nx:=by
  show Kg P [] _ o n E h nx=_;unfold Kg;simp only [hq,hp]
 rw [e] at H;exact H
theorem xR {o:Oper} {n:Nat} {p:St} {f:Tr CV→Tr CB→Option CV} (hp:GQ n o.dst=some p) (hf:∀ E h c,f E h=some c→qv P E h o.op=some c):GP P Φ (Dl P pr o n p f) o n:=fun ih H E h nx=>by
 show Md (fun k=>Option.rec (motive:=fun _=>B3) ((Ws P pr o n).run ih E h nx k) (fun c=>k (p.run c E) h nx) (f E h)) _;cases hc:f E h with
 | none=>exact Ad o n ih H E h nx
 | some c=>exact .inr ⟨p.run c E,h,nx,fun k=>rfl,NV (hf E h c hc) (Oa hp E c)⟩
theorem Bl {o:Oper} {n:Nat} {p:St} {f:Tr CV→Tr CB→Nat→Ro} (hp:GQ n o.dst=some p) (hq:∀ E h,qv P E h o.op=none) (hw:∀ E h nx,wv P E h nx o.op=f E h nx):GP P Φ (Ia P pr o n p f) o n:=fun ih H E h nx=>by
 show Md (fun k=>Ro.rec (motive:=fun _=>B3) ((Ws P pr o n).run ih E h nx k) (fun c h nx=>k (p.run c E) h nx) (fun h nx=>match o.dst with | none=>k E h nx | some _=>.bad 10 []) (f E h nx)) _;have hs:=Di (pr:=[]) (Ck (P:=P) (Φ:=Φ)) o n E h nx;have hwm:f E h nx≠.bad→wm P E h nx o.op=f E h nx:=fun hb=>by
  unfold wm;rw [hw];cases hf:f E h nx with
  | bad=>exact absurd hf hb
  | val c h' nx'=>rfl
  | unit h' nx'=>rfl
 cases hf:f E h nx with
 | bad=>exact Ad o n ih H E h nx
 | val c h' nx' =>
   have e:=hwm (by rw [hf];intro h;cases h);rw [hf] at e;have e2:step P [] (fun _=>.bad 0 []) (.one o n E h nx)=B3.ok .normal (p.run c E) h' nx':=by
    show Kg P [] _ o n E h nx=_;unfold Kg;simp only [hq,e,Oa hp]
   rw [e2] at hs;exact .inr ⟨p.run c E,h',nx',fun k=>rfl,hs⟩
 | unit h' nx' =>
   have e:=hwm (by rw [hf];intro h;cases h);rw [hf] at e;cases hd:o.dst with
   | some d=>exact .inl ⟨10,[],fun k=>by simp only [hd]⟩
   | none =>
     have e2:step P [] (fun _=>.bad 0 []) (.one o n E h nx)=B3.ok .normal E h' nx':=by
      show Kg P [] _ o n E h nx=_;unfold Kg;simp only [hq,e,hd]
     rw [e2] at hs;exact .inr ⟨E,h',nx',fun k=>by simp only [hd],hs⟩
theorem NW {o:Oper} {n:Nat} (hq:∀ E h,qv P E h o.op=none) (hw:∀ E h nx,wm P E h nx o.op=.bad):GP P Φ (UF o n) o n:=fun ih H E h nx=>by
 have hs:=Di (pr:=[]) H o n E h nx;have e2:step P [] ih (.one o n E h nx)=Na ih E n h nx o.dst o.op:=by
  show Kg P [] _ o n E h nx=_;unfold Kg;simp only [hq,hw]
 rw [e2] at hs;show Md (fun k=>match Na ih E n h nx o.dst o.op with | .ok _ E h nx=>k E h nx | .ret _ _ _=>.bad 70 [] | .bad w a=>.bad w a) _;generalize Na ih E n h nx o.dst o.op=q at hs;cases q with
 | bad w a=>exact .inl ⟨w,a,fun k=>rfl⟩
 | ret v h' nx'=>exact .inl ⟨70,[],fun k=>rfl⟩
 | ok x E' h' nx' =>
   have hx:x=.normal:=hs.1;subst hx;exact .inr ⟨E',h',nx',fun k=>rfl,hs⟩
theorem YY (b:BinOp) (k:IntKind) (m n:Int):(nr b).run k m n=bo b k m n:=by cases b <;> rfl
theorem UI {a b:Option CV} {f:IntKind→Int→Int→Option CV} {c:CV} (h:ZW a b f=some c):∃ k m n,a=some (.int k m)∧∃ k',b=some (.int k' n)∧OB k k'=true∧f k m n=some c:=by
 cases a with
 | none=>cases h
 | some a =>
   cases a with
   | int k m =>
     cases b with
     | none=>cases h
     | some b =>
       cases b with
       | int k' n =>
         have h':(bif OB k k' then f k m n else none)=some c:=h;rcases uN h' with ⟨h1,h2⟩ | ⟨_,h2⟩
         · exact ⟨k,m,n,U,k',U,h1,h2⟩
         · cases h2
       | _=>cases h
   | _=>cases h
theorem GR (o:Oper) (n:Nat):GP P Φ (UG P pr o n) o n:=by
 unfold UG;split
 · rename_i p hp;split
   · rename_i x hop;exact xR hp fun E h c hc=>by rw [hop];rw [zL] at hc;exact hc
   · rename_i x hop;exact xR hp fun E h c hc=>by rw [hop];rw [zL] at hc;exact hc
   · rename_i x i hop;exact xR hp fun E h c hc=>by rw [hop];rw [zL] at hc;exact hc
   · rename_i x hop;refine xR hp fun E h c hc=>?_;rw [hop];rw [zL] at hc;split at hc
     · rename_i t o' hx;cases hc;show pf P E h x=_;unfold pf;rw [hx]
     cases hc
   · rename_i s x f hop;split
     · rename_i j hj;refine xR hp fun E h c hc=>?_;rw [hop];rw [zL] at hc;split at hc
       · rename_i t o' hx;cases hc;show pg P E h s x f=_;unfold pg;rw [hx];simp only [hj]
       cases hc
     exact Ad o n
   · rename_i T x hop;refine uU (fun c=>GP P Φ c o n) (fun h1=>?_) fun _=>Ad o n;refine xR hp fun E h c hc=>?_;rw [hop];rw [zL] at hc;split at hc
     · rename_i t o' hx;split at hc
       · rename_i l ty op st hb;show YN P E h T x=_;unfold YN;rw [hx];simp only [hb,h1,iA];exact hc
       cases hc
     cases hc
   · rename_i c x y hop;refine xR hp fun E h c' hc=>?_;rw [hop];simp only [zL] at hc;split at hc
     · rename_i b hb;show oz P E h c x y=_;unfold oz;rw [hb];cases b <;> exact hc
     cases hc
   · rename_i tt x hop;refine xR hp fun E h c hc=>?_;rw [hop];rw [zL] at hc;exact hc
   · rename_i s t x hop;split
     · rename_i k' ht;split
       · rename_i d hd;refine xR hp fun E h c hc=>?_;rw [hop];rw [zL] at hc;show pe P E h s t x=_;unfold pe;rw [ht];simp only [hd];exact hc
       exact Ad o n
     exact Ad o n
   · rename_i T x i hop;split
     · rename_i e' sz' hT;refine xR hp fun E h c hc=>?_;rw [hop];simp only [zL] at hc;split at hc
       · rename_i k m hi;split at hc
         · rename_i t o' N sz cc hx;show YO P E h T x i=_;unfold YO;rw [hi];simp only [hx,hT];exact hc
         cases hc
       cases hc
     exact Ad o n
   · rename_i x T hop;split
     · rename_i e' hT;refine xR hp fun E h c hc=>?_;rw [hop];rw [zL] at hc;split at hc
       · rename_i t o' N sz cc hx;show NJ P E h x T=_;unfold NJ;rw [hx];simp only [hT];exact hc
       · rename_i hx;show NJ P E h x T=_;unfold NJ;rw [hx];simp only [hT];exact hc
       cases hc
     exact Ad o n
   · rename_i T hop;exact Bl hp (fun E h=>by rw [hop];rfl) fun E h nx=>by rw [hop];rfl
   · rename_i T x hop;exact Bl hp (fun E h=>by rw [hop];rfl) fun E h nx=>by rw [hop];rfl
   · rename_i T x y hop;exact Bl hp (fun E h=>by rw [hop];rfl) fun E h nx=>by rw [hop];rfl
   · rename_i T m parts hop;exact Bl hp (fun E h=>by rw [hop];rfl) fun E h nx=>by rw [hop];rfl
   · rename_i T x y hop;exact Bl hp (fun E h=>by rw [hop];rfl) fun E h nx=>by rw [hop];rfl
   · rename_i s x T tx hop;exact Bl hp (fun E h=>by rw [hop];rfl) fun E h nx=>by rw [hop];rfl
   · rename_i f args ats hop;refine uU (fun c=>GP P Φ c o n) (fun _=>Ad o n) fun hf=>?_;exact NW (fun E h=>by rw [hop];rfl) fun E h nx=>by rw [hop];exact YT hf
   · rename_i b t x y tt hop;split
     · exact Ad o n
     · exact Ad o n
     rename_i hb1 hb2;refine xR hp fun E h c hc=>?_;rw [hop];rw [zL,zL] at hc;obtain ⟨k,m,m',e1,k',e2,e3,e4⟩:=UI hc;rw [YY] at e4;show pd P E h b t x y=_;unfold pd;rw [e1];simp only [e2];have e5:sh b k m m'=none:=by
      cases b <;> first | rfl | exact absurd U hb1 | exact absurd U hb2
     rw [e5];simp only [e3,iA];exact e4
   exact Ad o n
 exact Ad o n
def YZ (l:List Co):(C5→B3)→Tr CV→Tr CB→Nat→Kt→B3:=
 List.rec (motive:=fun _=>(C5→B3)→Tr CV→Tr CB→Nat→Kt→B3) (fun _ E h nx k=>k E h nx) (fun a _ r ih E h nx k=>a.run ih E h nx (fun E h nx=>r ih E h nx k)) l
def ZA (P:Program) (pr:wH) (n:Nat) (l:List Oper):List Co:=List.rec (motive:=fun _=>List Co) [] (fun o _ ih=>UG P pr o n :: ih) l
def Me (l:List Oper):Bool:=List.rec (motive:=fun _=>Bool) true (fun o _ ih=>(match o.guard with | none=>true | some _=>false) && ih) l
def Za (c1:C5) (r1:B3):C5→B3:=fun c=>open Classical in if c=c1 then r1 else .bad 0 []
theorem Sm {c1:C5} {r1:B3} (H:uP P Φ c1 r1):GO P Φ (Za c1 r1):=fun c=>by
 unfold Za;split
 · rename_i e;subst e;exact H
 exact Fs c 0 []
theorem Af (c1:C5) (r1:B3):Za c1 r1 c1=r1:=by unfold Za;rw [aM rfl]
def Tu (c1:C5) (r1:B3) (c2:C5) (r2:B3):C5→B3:=fun c=>open Classical in if c=c1 then r1 else if c=c2 then r2 else .bad 0 []
theorem Kl {c1 c2:C5} {r1 r2:B3} (H1:uP P Φ c1 r1) (H2:uP P Φ c2 r2):GO P Φ (Tu c1 r1 c2 r2):=fun c=>by
 unfold Tu;split
 · rename_i e;subst e;exact H1
 split
 · rename_i e;subst e;exact H2
 exact Fs c 0 []
theorem Zb (c1:C5) (r1:B3) (c2:C5) (r2:B3):Tu c1 r1 c2 r2 c1=r1:=by unfold Tu;rw [aM rfl]
theorem Zc {c1 c2:C5} (h:c2≠c1) (r1 r2:B3):Tu c1 r1 c2 r2 c2=r2:=by unfold Tu;rw [aE h,aM rfl]
theorem UK {all rest:List Oper} {o:Oper} {n:Nat} {E E1 E2:Tr CV} {h h1 h2:Tr CB} {nx nx1 nx2:Nat} (hg:o.guard=none) (H1:uP P Φ (.one o n E h nx) (.ok .normal E1 h1 nx1)) (H2:uP P Φ (.ops all rest n E1 h1 nx1) (.ok .normal E2 h2 nx2)):uP P Φ (.ops all (o :: rest) n E h nx) (.ok .normal E2 h2 nx2):=by
 have H:=Kj (pr:=[]) (Kl H1 H2) all (o :: rest) n E h nx;have e:step P [] (Tu (.one o n E h nx) (.ok .normal E1 h1 nx1) (.ops all rest n E1 h1 nx1) (.ok .normal E2 h2 nx2)) (.ops all (o :: rest) n E h nx)=B3.ok .normal E2 h2 nx2:=by
  show TZ P [] _ all (o :: rest) n E h nx=_;unfold TZ;simp only [hg,Zb];exact Zc Mf _ _
 rw [e] at H;exact H
theorem ZB (all:List Oper) (n:Nat) (E:Tr CV) (h:Tr CB) (nx:Nat):uP P Φ (.ops all [] n E h nx) (.ok .normal E h nx):=Kj (pr:=[]) (Ck (P:=P) (Φ:=Φ)) all [] n E h nx
theorem JO {ih:C5→B3} (H:GO P Φ ih) (all:List Oper) (n:Nat):∀ (l:List Oper) (E:Tr CV) (h:Tr CB) (nx:Nat),Me l=true→Md (YZ (ZA P pr n l) ih E h nx) (fun E' h' nx'=>uP P Φ (.ops all l n E h nx) (.ok .normal E' h' nx'))
 | [],E,h,nx,_=>.inr ⟨E,h,nx,fun k=>rfl,ZB all n E h nx⟩
 | o :: l,E,h,nx,hl=>by
   have hl':((match o.guard with | none=>true | some _=>false) && Me l)=true:=hl;rw [aB] at hl';have hg:o.guard=none:=by cases hgg:o.guard with | none=>rfl | some x=>rw [hgg] at hl';cases hl'.1
   have H1:=GR (pr:=pr) o n ih H E h nx;show Md (fun k=>(UG P pr o n).run ih E h nx (fun E h nx=>YZ (ZA P pr n l) ih E h nx k)) _;rcases H1 with ⟨w,a,hb⟩ | ⟨E1,h1,nx1,hk,hd⟩
   · exact .inl ⟨w,a,fun k=>hb _⟩
   rcases JO H all n l E1 h1 nx1 hl'.2 with ⟨w,a,hb⟩ | ⟨E2,h2,nx2,hk2,hd2⟩
   · exact .inl ⟨w,a,fun k=>(hk _).trans (hb k)⟩
   exact .inr ⟨E2,h2,nx2,fun k=>(hk _).trans (hk2 k),UK hg hd hd2⟩
end
abbrev Pd:=List (Nat×Nat×Nat)
structure Cr where
 run:(C5→B3)→Pd→Tr CV→Tr CB→Nat→Kt→B3
def DK (o:Oper) (i nx:Nat) (E:Tr CV) (pend:Pd):Pd:=match TG E o.op with | some t=>(t,i,nx) :: pend | none=>pend
def Sn (P:Program) (pr:wH) (n:Nat) (l:List Oper) (plan:List (Nat×Pk)):Cr:=List.rec (motive:=fun _=>Cr) ⟨fun _ _ E h nx k=>k E h nx⟩ (fun x _ r=>match Ic l x.1 with
 | some o=>(match o.guard with
   | none=>(match GQ n o.dst with
     | some p=>(match x.2 with
       | .look=>⟨fun ih pend E h nx k=>Option.rec (motive:=fun _=>B3) (.bad 26 [o]) (fun c=>r.run ih (DK o x.1 nx E pend) (p.run c E) h nx k) (qv P E h o.op)⟩
       | .only=>⟨fun ih pend E h nx k=>(UG P pr o n).run ih E h nx (fun E h nx=>bif zR h (vE o pend) then r.run ih (vE o pend) E h nx k else .bad 28 [o])⟩
       | .race R=>⟨fun ih pend E h nx k=>bif Ax P l R n (vO l R E) h nx then (UG P pr o n).run ih (vO l R E) h nx (fun E h nx=>bif zR h (vE o pend) then r.run ih (vE o pend) E h nx k else .bad 28 [o]) else .bad 32 [o]⟩
       | .make R=>⟨fun ih pend E h nx k=>bif Ax P l R n (vO l R E) h nx then (match wm P (vO l R E) h nx o.op with | .val c h nx=>r.run ih (vE o pend) (p.run c (vO l R E)) h nx k | _=>.bad 34 [o]) else .bad 35 [o]⟩)
     | none=>⟨fun _ _ _ _ _ _=>.bad 25 [o]⟩)
   | some _=>⟨fun _ _ _ _ _ _=>.bad 30 [o]⟩)
 | none=>⟨fun _ _ _ _ _ _=>.bad 31 []⟩) plan
section
variable {P:Program} {Φ:A3→Prop} {pr:wH}
theorem JP {c':C5} {r r':B3} (H:uP P Φ c' r) (l:List Oper) (plan:List (Nat×Pk)) (pend:Pd) (n:Nat) (E:Tr CV) (h:Tr CB) (nx:Nat) (e:step P [] (Za c' r) (.reg l plan pend n E h nx)=r'):uP P Φ (.reg l plan pend n E h nx) r':=by
 rw [←e];exact Dk (Sm H) l plan pend n E h nx
theorem JQ {l:List Oper} {E:Tr CV} {o:Oper} (h:o.guard=none):ZV l E o=some true:=by unfold ZV;rw [h]
theorem UL {l:List Oper} {plan:List (Nat×Pk)} {pend:Pd} {n i:Nat} {E E':Tr CV} {h:Tr CB} {nx:Nat} {o:Oper} {c:CV} {r:B3} (hl:Ic l i=some o) (hg:o.guard=none) (hq:qv P E h o.op=some c) (hp:Ab E n o.dst c=some E')
 (H:uP P Φ (.reg l plan (DK o i nx E pend) n E' h nx) r):uP P Φ (.reg l ((i,.look) :: plan) pend n E h nx) r:=by
 refine JP H l _ pend n E h nx ?_;show Kh P [] _ l ((i,.look) :: plan) pend n E h nx=_;unfold Kh;simp only [hl,JQ hg,iA,hq,hp];exact Af _ _
theorem NX {l:List Oper} {plan:List (Nat×Pk)} {pend:Pd} {n i:Nat} {E E':Tr CV} {h h':Tr CB} {nx nx':Nat} {o:Oper} {r:B3} (hl:Ic l i=some o) (hg:o.guard=none) (H1:uP P Φ (.one o n E h nx) (.ok .normal E' h' nx')) (hk:zR h' (vE o pend)=true)
 (H2:uP P Φ (.reg l plan (vE o pend) n E' h' nx') r):uP P Φ (.reg l ((i,.only) :: plan) pend n E h nx) r:=by
 have H:=Dk (pr:=[]) (Kl H1 H2) l ((i,.only) :: plan) pend n E h nx;have e:step P [] (Tu (.one o n E h nx) (.ok .normal E' h' nx') (.reg l plan (vE o pend) n E' h' nx') r) (.reg l ((i,.only) :: plan) pend n E h nx)=r:=by
  show Kh P [] _ l ((i,.only) :: plan) pend n E h nx=_;unfold Kh;simp only [hl,JQ hg,iA,nT,Zb,hk];exact Zc Mf _ _
 rw [e] at H;exact H
theorem UM {l:List Oper} {plan:List (Nat×Pk)} {R:List Nat} {pend:Pd} {n i:Nat} {E E':Tr CV} {h h':Tr CB} {nx nx':Nat} {o:Oper} {r:B3} (hl:Ic l i=some o) (hq:Ax P l R n (vO l R E) h nx=true) (H1:uP P Φ (.one o n (vO l R E) h nx) (.ok .normal E' h' nx')) (hk:zR h' (vE o pend)=true)
 (H2:uP P Φ (.reg l plan (vE o pend) n E' h' nx') r):uP P Φ (.reg l ((i,.race R) :: plan) pend n E h nx) r:=by
 have H:=Dk (pr:=[]) (Kl H1 H2) l ((i,.race R) :: plan) pend n E h nx;have e:step P [] (Tu (.one o n (vO l R E) h nx) (.ok .normal E' h' nx') (.reg l plan (vE o pend) n E' h' nx') r) (.reg l ((i,.race R) :: plan) pend n E h nx)=r:=by
  show Kh P [] _ l ((i,.race R) :: plan) pend n E h nx=_;unfold Kh;simp only [hl,hq,iA,Zb,hk];exact Zc Mf _ _
 rw [e] at H;exact H
theorem UN {l:List Oper} {plan:List (Nat×Pk)} {R:List Nat} {pend:Pd} {n i:Nat} {E E':Tr CV} {h h':Tr CB} {nx nx':Nat} {o:Oper} {c:CV} {r:B3} (hl:Ic l i=some o) (hq:Ax P l R n (vO l R E) h nx=true) (hw:wm P (vO l R E) h nx o.op=.val c h' nx') (hp:Ab (vO l R E) n o.dst c=some E')
 (H:uP P Φ (.reg l plan (vE o pend) n E' h' nx') r):uP P Φ (.reg l ((i,.make R) :: plan) pend n E h nx) r:=by
 refine JP H l _ pend n E h nx ?_;show Kh P [] _ l ((i,.make R) :: plan) pend n E h nx=_;unfold Kh;simp only [hl,hq,iA,hw,hp];exact Af _ _
theorem Km {ih:C5→B3} (H:GO P Φ ih) (l:List Oper) (n:Nat):∀ (plan:List (Nat×Pk)) (pend:Pd) (E:Tr CV) (h:Tr CB) (nx:Nat),Md ((Sn P pr n l plan).run ih pend E h nx) (fun E' h' nx'=>uP P Φ (.reg l plan pend n E h nx) (.ok .normal E' h' nx'))
 | [],pend,E,h,nx=>.inr ⟨E,h,nx,fun k=>rfl,Dk (pr:=[]) (Ck (P:=P) (Φ:=Φ)) l [] pend n E h nx⟩
 | (i,lk) :: plan,pend,E,h,nx=>by
   show Md ((match Ic l i with
    | some o=>(match o.guard with
      | none=>(match GQ n o.dst with
        | some p=>((match lk with
          | .look=>⟨fun ih pend E h nx k=>Option.rec (motive:=fun _=>B3) (.bad 26 [o]) (fun c=>(Sn P pr n l plan).run ih (DK o i nx E pend) (p.run c E) h nx k) (qv P E h o.op)⟩
          | .only=>⟨fun ih pend E h nx k=>(UG P pr o n).run ih E h nx (fun E h nx=>bif zR h (vE o pend) then (Sn P pr n l plan).run ih (vE o pend) E h nx k else .bad 28 [o])⟩
          | .race R=>⟨fun ih pend E h nx k=>bif Ax P l R n (vO l R E) h nx then (UG P pr o n).run ih (vO l R E) h nx (fun E h nx=>bif zR h (vE o pend) then (Sn P pr n l plan).run ih (vE o pend) E h nx k else .bad 28 [o]) else .bad 32 [o]⟩
          | .make R=>⟨fun ih pend E h nx k=>bif Ax P l R n (vO l R E) h nx then (match wm P (vO l R E) h nx o.op with | .val c h nx=>(Sn P pr n l plan).run ih (vE o pend) (p.run c (vO l R E)) h nx k | _=>.bad 34 [o]) else .bad 35 [o]⟩):Cr)
        | none=>⟨fun _ _ _ _ _ _=>.bad 25 [o]⟩)
      | some _=>⟨fun _ _ _ _ _ _=>.bad 30 [o]⟩)
    | none=>⟨fun _ _ _ _ _ _=>.bad 31 []⟩).run ih pend E h nx) _
   cases hl:Ic l i with
   | none=>exact .inl ⟨31,[],fun k=>rfl⟩
   | some o =>
     simp only;cases hg:o.guard with
     | some g=>exact .inl ⟨30,[o],fun k=>rfl⟩
     | none =>
       simp only;cases hp:GQ n o.dst with
       | none=>exact .inl ⟨25,[o],fun k=>rfl⟩
       | some p =>
         simp only;cases lk with
         | look =>
           show Md (fun k=>Option.rec (motive:=fun _=>B3) (.bad 26 [o]) (fun c=>(Sn P pr n l plan).run ih (DK o i nx E pend) (p.run c E) h nx k) (qv P E h o.op)) _;cases hq:qv P E h o.op with
           | none=>exact .inl ⟨26,[o],fun k=>rfl⟩
           | some c =>
             rcases Km H l n plan (DK o i nx E pend) (p.run c E) h nx with ⟨w,a,hb⟩ | ⟨E2,h2,nx2,hk,hd⟩
             · exact .inl ⟨w,a,fun k=>hb k⟩
             · exact .inr ⟨E2,h2,nx2,fun k=>hk k,UL hl hg hq (Oa hp E c) hd⟩
         | only =>
           show Md (fun k=>(UG P pr o n).run ih E h nx (fun E h nx=>bif zR h (vE o pend) then (Sn P pr n l plan).run ih (vE o pend) E h nx k else .bad 28 [o])) _;rcases GR (pr:=pr) o n ih H E h nx with ⟨w,a,hb⟩ | ⟨E1,h1,nx1,hk1,hd1⟩
           · exact .inl ⟨w,a,fun k=>hb _⟩
           · cases hkp:zR h1 (vE o pend) with
             | false=>exact .inl ⟨28,[o],fun k=>(hk1 _).trans (by rw [hkp];rfl)⟩
             | true =>
               rcases Km H l n plan (vE o pend) E1 h1 nx1 with ⟨w,a,hb⟩ | ⟨E2,h2,nx2,hk,hd⟩
               · exact .inl ⟨w,a,fun k=>(hk1 _).trans (by rw [hkp];exact hb k)⟩
               · exact .inr ⟨E2,h2,nx2,fun k=>(hk1 _).trans (by rw [hkp];exact hk k),NX hl hg hd1 hkp hd⟩
         | race R =>
           show Md (fun k=>bif Ax P l R n (vO l R E) h nx then (UG P pr o n).run ih (vO l R E) h nx (fun E h nx=>bif zR h (vE o pend) then (Sn P pr n l plan).run ih (vE o pend) E h nx k else .bad 28 [o]) else .bad 32 [o]) _;cases hq:Ax P l R n (vO l R E) h nx with
           | false=>exact .inl ⟨32,[o],fun k=>rfl⟩
           | true =>
             simp only [iA];rcases GR (pr:=pr) o n ih H (vO l R E) h nx with ⟨w,a,hb⟩ | ⟨E1,h1,nx1,hk1,hd1⟩
             · exact .inl ⟨w,a,fun k=>hb _⟩
             · cases hkp:zR h1 (vE o pend) with
               | false=>exact .inl ⟨28,[o],fun k=>(hk1 _).trans (by rw [hkp];rfl)⟩
               | true =>
                 rcases Km H l n plan (vE o pend) E1 h1 nx1 with ⟨w,a,hb⟩ | ⟨E2,h2,nx2,hk,hd⟩
                 · exact .inl ⟨w,a,fun k=>(hk1 _).trans (by rw [hkp];exact hb k)⟩
                 · exact .inr ⟨E2,h2,nx2,fun k=>(hk1 _).trans (by rw [hkp];exact hk k),UM hl hq hd1 hkp hd⟩
         | make R =>
           show Md (fun k=>bif Ax P l R n (vO l R E) h nx then (match wm P (vO l R E) h nx o.op with | .val c h nx=>(Sn P pr n l plan).run ih (vE o pend) (p.run c (vO l R E)) h nx k | _=>.bad 34 [o]) else .bad 35 [o]) _;cases hq:Ax P l R n (vO l R E) h nx with
           | false=>exact .inl ⟨35,[o],fun k=>rfl⟩
           | true =>
             simp only [iA];cases hw:wm P (vO l R E) h nx o.op with
             | bad=>exact .inl ⟨34,[o],fun k=>rfl⟩
             | unit _ _=>exact .inl ⟨34,[o],fun k=>rfl⟩
             | val c h1 nx1 =>
               rcases Km H l n plan (vE o pend) (p.run c (vO l R E)) h1 nx1 with ⟨w,a,hb⟩ | ⟨E2,h2,nx2,hk,hd⟩
               · exact .inl ⟨w,a,fun k=>hb k⟩
               exact .inr ⟨E2,h2,nx2,fun k=>hk k,UN hl hq hw (Oa hp _ c) hd⟩
end
def ns (c:Cd) (F:Nat):(C5→B3)→Tr CV→Tr CB→Nat→Kx→B3:=
 Nat.rec (motive:=fun _=>(C5→B3)→Tr CV→Tr CB→Nat→Kx→B3) (fun _ _ _ _ _=>.bad 0 []) (fun _ r ih E h nx k=>c.run ih E h nx (fun x E h nx=>match x with | .normal=>r ih E h nx k | x=>k x E h nx)) F
def Ef (P:Program) (pr:wH) (LF:Nat) (n:Nat) (c:Code):Cd:=Code.rec (motive:=fun _=>Cd) ⟨fun _ E h nx k=>k .normal E h nx⟩
 (fun id ops draw=>bif not draw && (ops.toList.all vT && Me ops.toList) then ⟨fun ih E h nx k=>YZ (ZA P pr n ops.toList) ih E h nx (fun E h nx=>k .normal E h nx)⟩ else bif draw && (P.follows .mixedOrders && Me ops.toList) then (match Rx ops.toList with | some p=>⟨fun ih E h nx k=>(Sn P pr n ops.toList p).run ih [] E h nx (fun E h nx=>k .normal E h nx)⟩ | none=>DJ P pr (.region id ops draw) n) else DJ P pr (.region id ops draw) n)
 (fun _ _ a b=>⟨fun ih E h nx k=>a.run ih E h nx (fun x E h nx=>match x with | .normal=>b.run ih E h nx k | x=>k x E h nx)⟩)
 (fun c _ _ a b=>⟨fun ih E h nx k=>match (Yz c).run E with | some (.bool t)=>bif t then a.run ih E h nx k else b.run ih E h nx k | _=>.bad 1 []⟩)
 (fun id _ c=>⟨fun ih E h nx k=>c.run ih E h nx (fun x E h nx=>match x with | .exit id'=>bif Nat.beq id' id then k .normal E h nx else k (.exit id') E h nx | x=>k x E h nx)⟩)
 (fun _ c=>⟨fun ih E h nx k=>ns c LF ih E h nx k⟩)
 (fun g ps asg body _ _=>DJ P pr (.rangeFunc g ps asg body) n)
 (fun id=>⟨fun _ E h nx k=>k (.exit id) E h nx⟩)
 (fun _ c=>⟨fun ih E h nx k=>c.run ih E h nx (fun x E h nx=>match x with | .normal=>k .normal E h nx | .ret=>k .ret E h nx | .exit id=>k (.exit id) E h nx | _=>.bad 22 [])⟩)
 (fun _=>⟨fun _ E h nx k=>k .normal E h nx⟩)
 (fun l=>DJ P pr (.goto l) n)
 ⟨fun _ E h nx k=>k .ret E h nx⟩
 (fun s=>DJ P pr (.refuse s) n) c
section
variable {P:Program} {Φ:A3→Prop} {pr:wH}
def fp (id:Nat) (x:Exit) (E:Tr CV) (h:Tr CB) (nx:Nat):B3:=match x with | .exit id'=>bif Nat.beq id' id then .ok .normal E h nx else .ok (.exit id') E h nx | x=>.ok x E h nx
def vd (x:Exit) (E:Tr CV) (h:Tr CB) (nx:Nat):B3:=match x with | .normal=>.ok .normal E h nx | .ret=>.ok .ret E h nx | .exit id=>.ok (.exit id) E h nx | _=>.bad 22 []
section rules
variable {a b c:Code} {n:Nat} {E E1 E2:Tr CV} {h h1 h2:Tr CB} {nx nx1 nx2:Nat} {x:Exit} {r:B3}
theorem UO (H1:uP P Φ (.code a n E h nx) (.ok .normal E1 h1 nx1)) (H2:uP P Φ (.code b n E1 h1 nx1) (.ok x E2 h2 nx2)):uP P Φ (.code (.seq a b) n E h nx) (.ok x E2 h2 nx2):=by
 intro r ρ w0 ac w hR hf hn hrr Q hQ;refine wpIn_seq (H1 r ρ w0 ac w hR hf hn (hrr.imp id fun q=>(aB _ _▸(show (Ze a && Ze b)=true from q)).1) _ fun ρ' a' w' e1 e2=>?_);exact H2 r ρ' w0 a' w' e2 e1.fit hn (hrr.imp id fun q=>(aB _ _▸(show (Ze a && Ze b)=true from q)).2) Q fun ρ2 a2 w2 f1 f2=>hQ ρ2 a2 w2 (e1.trans hR.mem f1) f2
theorem Cb {c':C5} (H:uP P Φ c' r) (n:Nat) (E:Tr CV) (h:Tr CB) (nx:Nat) (c:Code) (r':B3) (e:step P [] (Za c' r) (.code c n E h nx)=r'):uP P Φ (.code c n E h nx) r':=by
 rw [←e];exact Ac (Sm H) c n E h nx
theorem UP (hx:x≠.normal) (H1:uP P Φ (.code a n E h nx) (.ok x E1 h1 nx1)):uP P Φ (.code (.seq a b) n E h nx) (.ok x E1 h1 nx1):=by
 refine Cb H1 n E h nx _ _ ?_;show fk P _ n E h nx a b=_;unfold fk;rw [Af];cases x <;> first | exact absurd U hx | rfl
theorem DM {id:Nat} {l:List Oper} (hd:l.all vT=true) (H1:uP P Φ (.ops l l n E h nx) r):uP P Φ (.code (.region id ⟨l⟩ false) n E h nx) r:=by
 refine Cb H1 n E h nx _ _ ?_;show (bif l.all vT then Za (.ops l l n E h nx) r (.ops l l n E h nx) else B3.bad 2 [])=_;rw [hd];exact Af _ _
theorem NY {id:Nat} {l:List Oper} {p:List (Nat×Pk)} (hf:P.follows .mixedOrders=true) (hp:Rx l=some p) (H1:uP P Φ (.reg l p [] n E h nx) r):uP P Φ (.code (.region id ⟨l⟩ true) n E h nx) r:=by
 refine Cb H1 n E h nx _ _ ?_;show TY P _ n E h nx l=_;unfold TY;rw [hf,hp];exact Af _ _
theorem Wt {o:Operand} {t:Bool} (ht:wA E o=some (.bool t)) (H1:uP P Φ (.code (bif t then a else b) n E h nx) r):uP P Φ (.code (.cond o a b) n E h nx) r:=by
 refine Cb H1 n E h nx _ _ ?_;show (match wA E o with
  | some (.bool t)=>Za _ r (.code (bif t then a else b) n E h nx)
  | _=>B3.bad 1 [])=_
 rw [ht];exact Af _ _
theorem GS {id:Nat} (H1:uP P Φ (.code c n E h nx) (.ok x E1 h1 nx1)):uP P Φ (.code (.block id c) n E h nx) (fp id x E1 h1 nx1):=by
 refine Cb H1 n E h nx _ _ ?_;show fl P _ n E h nx id c=_;unfold fl;rw [Af];cases x <;> rfl
theorem GU (H1:uP P Φ (.code c n E h nx) (.ok x E1 h1 nx1)):uP P Φ (.code (.scope c) n E h nx) (vd x E1 h1 nx1):=by
 refine Cb H1 n E h nx _ _ ?_;show fm P _ n E h nx c=_;unfold fm;rw [Af];cases x <;> rfl
theorem NZ (H1:uP P Φ (.loop c n E h nx) r):uP P Φ (.code (.loop c) n E h nx) r:=Cb H1 n E h nx _ _ (Af _ _)
theorem OA (H1:uP P Φ (.code c n E h nx) (.ok .normal E1 h1 nx1)) (H2:uP P Φ (.loop c n E1 h1 nx1) r):uP P Φ (.loop c n E h nx) r:=by
 have H:=step_loop (pr:=[]) (Kl H1 H2) c n E h nx;have e:step P [] (Tu (.code c n E h nx) (.ok .normal E1 h1 nx1) (.loop c n E1 h1 nx1) r) (.loop c n E h nx)=r:=by
  show CZ P [] _ c n E h nx=_;unfold CZ;rw [Zb];exact Zc Mf _ _
 rw [e] at H;exact H
theorem UQ (hx:x≠.normal) (H1:uP P Φ (.code c n E h nx) (.ok x E1 h1 nx1)):uP P Φ (.loop c n E h nx) (.ok x E1 h1 nx1):=by
 have H:=step_loop (pr:=[]) (Sm H1) c n E h nx;have e:step P [] (Za (.code c n E h nx) (.ok x E1 h1 nx1)) (.loop c n E h nx)=.ok x E1 h1 nx1:=by
  show CZ P [] _ c n E h nx=_;unfold CZ;rw [Af];cases x <;> first | exact absurd U hx | rfl
 rw [e] at H;exact H
end rules
theorem UR {cd:Cd} {c:Code} {n:Nat} (H:NU P Φ cd c n) {ih:C5→B3} (hi:GO P Φ ih):∀ (F:Nat) (E:Tr CV) (h:Tr CB) (nx:Nat),Sj (ns cd F ih E h nx) (fun x E' h' nx'=>uP P Φ (.loop c n E h nx) (.ok x E' h' nx'))
 | 0,E,h,nx=>.inl ⟨0,[],fun k=>rfl⟩
 | F+1,E,h,nx=>by
   show Sj (fun k=>cd.run ih E h nx (fun x E h nx=>match x with | .normal=>ns cd F ih E h nx k | x=>k x E h nx)) _;rcases H ih hi E h nx with ⟨w,a,hb⟩ | ⟨x,E1,h1,nx1,hk,hd⟩
   · exact .inl ⟨w,a,fun k=>hb _⟩
   have pass:x≠.normal→Sj (fun k=>cd.run ih E h nx (fun x E h nx=>match x with | .normal=>ns cd F ih E h nx k | x=>k x E h nx)) (fun x E' h' nx'=>uP P Φ (.loop c n E h nx) (.ok x E' h' nx')):=fun hx =>
    .inr ⟨x,E1,h1,nx1,fun k=>(hk _).trans (by cases x <;> first | exact absurd U hx | rfl),UQ hx hd⟩
   cases x with
   | normal =>
     rcases UR H hi F E1 h1 nx1 with ⟨w,a,hb⟩ | ⟨x2,E2,h2,nx2,hk2,hd2⟩
     · exact .inl ⟨w,a,fun k=>(hk _).trans (hb k)⟩
     · exact .inr ⟨x2,E2,h2,nx2,fun k=>(hk _).trans (hk2 k),OA hd hd2⟩
   | _=>exact pass Mf
theorem US (hpr:Ca P Φ pr) (LF n:Nat) (c:Code):NU P Φ (Ef P pr LF n c) c n:=by
 induction c with
 | skip=>exact fun ih H E h nx=>.inr ⟨.normal,E,h,nx,fun k=>rfl,Ac (pr:=[]) (Ck (P:=P) (Φ:=Φ)) .skip n E h nx⟩
 | label l=>exact fun ih H E h nx=>.inr ⟨.normal,E,h,nx,fun k=>rfl,Ac (pr:=[]) (Ck (P:=P) (Φ:=Φ)) (.label l) n E h nx⟩
 | exit id=>exact fun ih H E h nx=>.inr ⟨.exit id,E,h,nx,fun k=>rfl,Ac (pr:=[]) (Ck (P:=P) (Φ:=Φ)) (.exit id) n E h nx⟩
 | ret=>exact fun ih H E h nx=>.inr ⟨.ret,E,h,nx,fun k=>rfl,Ac (pr:=[]) (Ck (P:=P) (Φ:=Φ)) .ret n E h nx⟩
 | goto l=>exact Kk hpr (.goto l) n
 | refuse s=>exact Kk hpr (.refuse s) n
 | rangeFunc g ps asg body _ _=>exact Kk hpr (.rangeFunc g ps asg body) n
 | region id ops draw =>
   show NU P Φ (bif not draw && (ops.toList.all vT && Me ops.toList) then ⟨fun ih E h nx k=>YZ (ZA P pr n ops.toList) ih E h nx (fun E h nx=>k .normal E h nx)⟩ else bif draw && (P.follows .mixedOrders && Me ops.toList) then (match Rx ops.toList with | some p=>⟨fun ih E h nx k=>(Sn P pr n ops.toList p).run ih [] E h nx (fun E h nx=>k .normal E h nx)⟩ | none=>DJ P pr (.region id ops draw) n) else DJ P pr (.region id ops draw) n) (.region id ops draw) n;refine uU (fun d=>NU P Φ d (.region id ops draw) n) (fun hb=>?_) fun _=>uU (fun d=>NU P Φ d (.region id ops draw) n) (fun hb=>?_) fun _=>Kk hpr (.region id ops draw) n;rotate_left
   · simp only [aB] at hb;obtain ⟨hb1,hb2,hb3⟩:=hb;obtain ⟨l⟩:=ops;cases draw with
     | false=>cases hb1
     | true =>
       split
       · rename_i p hp;intro ih H E h nx;rcases Km H l n p [] E h nx with ⟨w,a,hb⟩ | ⟨E2,h2,nx2,hk,hd⟩
         · exact .inl ⟨w,a,fun k=>hb _⟩
         exact .inr ⟨.normal,E2,h2,nx2,fun k=>hk _,NY hb2 hp hd⟩
       exact Kk hpr (.region id ⟨l⟩ true) n
   simp only [aB] at hb;obtain ⟨hb1,hb2,hb3⟩:=hb;intro ih H E h nx;obtain ⟨l⟩:=ops;cases draw with
   | true=>cases hb1
   | false =>
     rcases JO H l n l E h nx hb3 with ⟨w,a,hb⟩ | ⟨E2,h2,nx2,hk,hd⟩
     · exact .inl ⟨w,a,fun k=>hb _⟩
     · exact .inr ⟨.normal,E2,h2,nx2,fun k=>hk _,DM hb2 hd⟩
 | seq a b iha ihb =>
   intro ih H E h nx;show Sj (fun k=>(Ef P pr LF n a).run ih E h nx (fun x E h nx=>match x with | .normal=>(Ef P pr LF n b).run ih E h nx k | x=>k x E h nx)) _;rcases iha ih H E h nx with ⟨w,ac,hb⟩ | ⟨x,E1,h1,nx1,hk,hd⟩
   · exact .inl ⟨w,ac,fun k=>hb _⟩
   · have pass:x≠.normal→Sj (fun k=>(Ef P pr LF n a).run ih E h nx (fun x E h nx=>match x with | .normal=>(Ef P pr LF n b).run ih E h nx k | x=>k x E h nx)) (fun x E' h' nx'=>uP P Φ (.code (.seq a b) n E h nx) (.ok x E' h' nx')):=fun hx =>
      .inr ⟨x,E1,h1,nx1,fun k=>(hk _).trans (by cases x <;> first | exact absurd U hx | rfl),UP hx hd⟩
     cases x with
     | normal =>
       rcases ihb ih H E1 h1 nx1 with ⟨w,ac,hb⟩ | ⟨x2,E2,h2,nx2,hk2,hd2⟩
       · exact .inl ⟨w,ac,fun k=>(hk _).trans (hb k)⟩
       · exact .inr ⟨x2,E2,h2,nx2,fun k=>(hk _).trans (hk2 k),UO hd hd2⟩
     | _=>exact pass Mf
 | cond o a b iha ihb =>
   intro ih H E h nx;show Sj (fun k=>match (Yz o).run E with | some (.bool t)=>bif t then (Ef P pr LF n a).run ih E h nx k else (Ef P pr LF n b).run ih E h nx k | _=>.bad 1 []) _;rw [zL];split
   · rename_i t ht;cases t with
     | true =>
       rcases iha ih H E h nx with ⟨w,ac,hb⟩ | ⟨x2,E2,h2,nx2,hk2,hd2⟩
       · exact .inl ⟨w,ac,fun k=>hb k⟩
       · exact .inr ⟨x2,E2,h2,nx2,fun k=>hk2 k,Wt ht hd2⟩
     | false =>
       rcases ihb ih H E h nx with ⟨w,ac,hb⟩ | ⟨x2,E2,h2,nx2,hk2,hd2⟩
       · exact .inl ⟨w,ac,fun k=>hb k⟩
       exact .inr ⟨x2,E2,h2,nx2,fun k=>hk2 k,Wt ht hd2⟩
   · exact .inl ⟨1,[],fun k=>rfl⟩
 | block id c ihc =>
   intro ih H E h nx;show Sj (fun k=>(Ef P pr LF n c).run ih E h nx (fun x E h nx=>match x with | .exit id'=>bif Nat.beq id' id then k .normal E h nx else k (.exit id') E h nx | x=>k x E h nx)) _;rcases ihc ih H E h nx with ⟨w,ac,hb⟩ | ⟨x,E1,h1,nx1,hk,hd⟩
   · exact .inl ⟨w,ac,fun k=>hb _⟩
   · have hr:=GS (id:=id) hd;cases x with
     | exit id' =>
       cases hbq:Nat.beq id' id with
       | true =>
         simp only [fp,hbq,iA] at hr;exact .inr ⟨.normal,E1,h1,nx1,fun k=>(hk _).trans (by simp only [hbq,iA]),hr⟩
       | false =>
         simp only [fp,hbq,nT] at hr;exact .inr ⟨.exit id',E1,h1,nx1,fun k=>(hk _).trans (by simp only [hbq,nT]),hr⟩
     | normal=>exact .inr ⟨_,E1,h1,nx1,fun k=>hk _,hr⟩
     | ret=>exact .inr ⟨_,E1,h1,nx1,fun k=>hk _,hr⟩
     | goto l=>exact .inr ⟨_,E1,h1,nx1,fun k=>hk _,hr⟩
     | panic ch=>exact .inr ⟨_,E1,h1,nx1,fun k=>hk _,hr⟩
     | outgrown=>exact .inr ⟨_,E1,h1,nx1,fun k=>hk _,hr⟩
 | scope c ihc =>
   intro ih H E h nx;show Sj (fun k=>(Ef P pr LF n c).run ih E h nx (fun x E h nx=>match x with | .normal=>k .normal E h nx | .ret=>k .ret E h nx | .exit id=>k (.exit id) E h nx | _=>.bad 22 [])) _;rcases ihc ih H E h nx with ⟨w,ac,hb⟩ | ⟨x,E1,h1,nx1,hk,hd⟩
   · exact .inl ⟨w,ac,fun k=>hb _⟩
   · have hr:=GU hd;cases x with
     | normal=>exact .inr ⟨_,E1,h1,nx1,fun k=>hk _,hr⟩
     | ret=>exact .inr ⟨_,E1,h1,nx1,fun k=>hk _,hr⟩
     | exit id=>exact .inr ⟨_,E1,h1,nx1,fun k=>hk _,hr⟩
     | _=>exact .inl ⟨22,[],fun k=>hk _⟩
 | loop c ihc =>
   intro ih H E h nx;show Sj (fun k=>ns (Ef P pr LF n c) LF ih E h nx k) _;rcases UR ihc H LF E h nx with ⟨w,ac,hb⟩ | ⟨x,E1,h1,nx1,hk,hd⟩
   · exact .inl ⟨w,ac,fun k=>hb k⟩
   exact .inr ⟨x,E1,h1,nx1,fun k=>hk k,NZ hd⟩
def fq (P:Program) (pr:wH) (LF:Nat) (ih:C5→B3):C5→B3
 | .code c n E h nx=>(Ef P pr LF n c).run ih E h nx (fun x E h nx=>.ok x E h nx)
 | c=>ih c
theorem DN (hpr:Ca P Φ pr) (LF:Nat) {ih:C5→B3} (H:GO P Φ ih):GO P Φ (fq P pr LF ih):=fun c=>by
 cases c with
 | code c n E h nx =>
   show uP P Φ _ ((Ef P pr LF n c).run ih E h nx (fun x E h nx=>.ok x E h nx));rcases US hpr LF n c ih H E h nx with ⟨w,ac,hb⟩ | ⟨x,E1,h1,nx1,hk,hd⟩
   · rw [hb];exact Fs _ _ _
   · rw [hk];exact hd
 | _=>exact H _
end
def ve (a b:Option Nat):Bool:=match a with
 | none=>(match b with | none=>true | some _=>false)
 | some x=>(match b with | none=>false | some y=>Nat.beq x y)
theorem ft {a b:Option Nat} (h:ve a b=true):a=b:=by
 cases a <;> cases b <;> first | rfl | (cases h;done) | (exact congrArg some (aD h))
def UT (a:CV):CV→Bool:=CV.rec (motive:=fun _=>CV→Bool)
 (fun k n b=>match b with | .int k' n'=>OB k k' && Lw n n' | _=>false)
 (fun x b=>match b with | .bool y=>fj x y | _=>false)
 (fun _ ih b=>match b with | .str s=>ih s | _=>false)
 (fun t o b=>match b with | .ptr t' o'=>Nat.beq t t' && Nat.beq o o' | _=>false)
 (fun b=>match b with | .nilp=>true | _=>false)
 (fun t o n sz c b=>match b with | .sl t' o' n' sz' c'=>Nat.beq t t' && (Nat.beq o o' && (Nat.beq n n' && (Nat.beq sz sz' && ve c c'))) | _=>false)
 (fun b=>match b with | .nils=>true | _=>false)
 (fun b=>match b with | .sle=>true | _=>false)
 (fun t b=>match b with | .mp t'=>Nat.beq t t' | _=>false)
 (fun b=>match b with | .nilm=>true | _=>false)
 (fun f _ _ i1 i2 b=>match b with | .fn f' x y=>Nat.beq f f' && (i1 x && i2 y) | _=>false)
 (fun b=>match b with | .nilf=>true | _=>false)
 (fun t b=>match b with | .yl t'=>Nat.beq t t' | _=>false)
 (fun _ ih b=>match b with | .agg l=>ih l | _=>false)
 (fun _ ih b=>match b with | .tup l=>ih l | _=>false)
 (fun b=>match b with | .nil=>true | _=>false)
 (fun _ _ i1 i2 b=>match b with | .cons x y=>i1 x && i2 y | _=>false) a
theorem Ib {a b:Nat} (h:Nat.beq a b=true):a=b:=aD h
theorem UU {a b:Bool} (h:fj a b=true):a=b:=by cases a <;> cases b <;> first | rfl | cases h
theorem GV:∀ {a b:CV},UT a b=true→a=b:=by
 intro a;induction a with
 | int k n =>
   intro b h;cases b <;> first | (cases h;done) | skip
   rename_i k' n';have h':(OB k k' && Lw n n')=true:=h;rw [aB] at h';rw [Ky h'.1,tJ ((yR n n').symm.trans h'.2)]
 | bool x=>intro b h;cases b <;> first | (cases h;done) | (exact congrArg _ (UU h))
 | str s ih=>intro b h;cases b <;> first | (cases h;done) | (exact congrArg _ (ih h))
 | ptr t o =>
   intro b h;cases b <;> first | (cases h;done) | skip
   rename_i t' o';have h':(Nat.beq t t' && Nat.beq o o')=true:=h;rw [aB] at h';rw [Ib h'.1,Ib h'.2]
 | nilp=>intro b h;cases b <;> first | rfl | cases h
 | sl t o n sz c =>
   intro b h;cases b <;> first | (cases h;done) | skip
   rename_i t' o' n' sz' c';have h':(Nat.beq t t' && (Nat.beq o o' && (Nat.beq n n' && (Nat.beq sz sz' && ve c c'))))=true:=h;simp only [aB] at h';rw [Ib h'.1,Ib h'.2.1,Ib h'.2.2.1,Ib h'.2.2.2.1,ft h'.2.2.2.2]
 | nils=>intro b h;cases b <;> first | rfl | cases h
 | sle=>intro b h;cases b <;> first | rfl | cases h
 | mp t=>intro b h;cases b <;> first | (cases h;done) | (exact congrArg _ (Ib h))
 | nilm=>intro b h;cases b <;> first | rfl | cases h
 | fn f x y i1 i2 =>
   intro b h;cases b <;> first | (cases h;done) | skip
   rename_i f' x' y';have h':(Nat.beq f f' && (UT x x' && UT y y'))=true:=h;simp only [aB] at h';rw [Ib h'.1,i1 h'.2.1,i2 h'.2.2]
 | nilf=>intro b h;cases b <;> first | rfl | cases h
 | yl t=>intro b h;cases b <;> first | (cases h;done) | (exact congrArg _ (Ib h))
 | agg l ih=>intro b h;cases b <;> first | (cases h;done) | (exact congrArg _ (ih h))
 | tup l ih=>intro b h;cases b <;> first | (cases h;done) | (exact congrArg _ (ih h))
 | nil=>intro b h;cases b <;> first | rfl | cases h
 | cons x y i1 i2 =>
   intro b h;cases b <;> first | (cases h;done) | skip
   rename_i x' y';have h':(UT x x' && UT y y')=true:=h;rw [aB] at h';rw [i1 h'.1,i2 h'.2]
structure EB where
 t:Nat
 l:CV
 ty:Nat
 op:Bool
 ro:Bool
 st:Nat
def EB.cb (x:EB):CB:=bif x.ro then .ro (Tk x.l) x.ty x.st else .cells (Tk x.l) x.ty x.op x.st
def vX (h:Tr CB) (l:List EB):Tr CB:=List.rec h (fun x _ ih=>ih.set (some x.cb) uW x.t) l
def Gr (g:Bool) (h:Tr CB) (x:EB):Bool:=match h.get x.t with
 | some (.cells l ty op st)=>not x.ro && (Nat.beq l.n (vP x.l) && (UT (vU l 0 l.n) x.l && (Nat.beq ty x.ty && (fj op x.op && (not g || Nat.beq st x.st)))))
 | some (.ro l ty st)=>x.ro && (Nat.beq l.n (vP x.l) && (UT (vU l 0 l.n) x.l && (Nat.beq ty x.ty && (not g || Nat.beq st x.st))))
 | _=>false
theorem UW (x:EB):Yl x.cb=x.st:=by
 unfold EB.cb;cases x.ro <;> rfl
theorem Dm {g:Bool} {h:Tr CB} {x:EB} (hx:Gr g h x=true):∃ b,h.get x.t=some b∧(g=true→Yl b=x.st)∧∀ (nx:Nat) (ρ:Pl) (s:Nat) (o:Obj),DB nx ρ s b o→DB nx ρ s x.cb o:=by
 unfold Gr at hx;have key:∀ {l:Rw},Nat.beq l.n (vP x.l)=true→UT (vU l 0 l.n) x.l=true→∀ {nx:Nat} {ρ:Pl} {vs:List Value},RL nx ρ l vs→RL nx ρ (Tk x.l) vs:=fun {l} h1 h2 {nx ρ vs} hr=>by
  have e1:=GV h2;have e2:=Ib h1;have hl:vP (vU l 0 l.n)=l.n:=by rw [e1,←e2]
  have hk:=zZ hr hl;rw [e1,hr.1] at hk;simp only [kN,gX] at hk;exact Yo hk
 split at hx
 · rename_i l ty op st hb;simp only [aB,eJ] at hx;obtain ⟨h1,h2,h3,h4,h5,h6⟩:=hx;refine ⟨_,hb,fun hg=>?_,fun nx ρ s o hd=>?_⟩
   · subst hg;show st=x.st;simpa using h6
   unfold EB.cb;rw [h1];obtain ⟨vs,junk,k1,k2,k3,k4⟩:=hd;refine ⟨vs,junk,key h2 h3 k1,by rw [←Ib h4];exact k2,k3,fun ho=>k4 (by rw [UU h5];exact ho)⟩
 · rename_i l ty st hb;simp only [aB] at hx;obtain ⟨h1,h2,h3,h4,h6⟩:=hx;refine ⟨_,hb,fun hg=>?_,fun nx ρ s o hd=>?_⟩
   · subst hg;show st=x.st;simpa using h6
   unfold EB.cb;rw [h1];obtain ⟨vs,fz,k1,k2⟩:=hd;exact ⟨vs,fz,key h2 h3 k1,by rw [←Ib h4];exact k2⟩
 cases hx
theorem yL (h:Tr CB):∀ {l:List EB},(∀ x∈l,x.t<uW)→∀ {t:Nat} {b:CB},(vX h l).get t=some b→(∃ x∈l,x.t=t∧x.cb=b)∨((∀ x∈l,x.t≠t)∧h.get t=some b)
 | [],_,t,b,hg=>.inr ⟨fun x hx=>(by cases hx),hg⟩
 | x :: l,hl,t,b,hg=>by
   have hg':((vX h l).set (some x.cb) uW x.t).get t=some b:=hg;rw [fE _ _ _ _ _ (hl x (bM ..))] at hg';by_cases e:t=x.t
   · rw [aM e] at hg';cases hg';exact .inl ⟨x,bM ..,e.symm,U⟩
   rw [aE e] at hg';rcases yL h (fun y hy=>hl y (bD _ hy)) hg' with ⟨y,h1,h2⟩ | ⟨h1,h2⟩
   · exact .inl ⟨y,bD _ h1,h2⟩
   refine .inr ⟨fun y hy=>?_,h2⟩;rcases dK.1 hy with rfl | hy
   · exact fun e2=>e e2.symm
   exact h1 y hy
theorem Gi (h:Tr CB):∀ {l:List EB},(∀ x∈l,x.t<uW)→∀ {t:Nat},((∃ x∈l,x.t=t)∨(∃ b,h.get t=some b))→∃ b,(vX h l).get t=some b
 | [],_,t,hg=>hg.elim (fun ⟨x,hx,_⟩=>by cases hx) id
 | x :: l,hl,t,hg=>by
   show ∃ b,((vX h l).set (some x.cb) uW x.t).get t=some b;rw [fE _ _ _ _ _ (hl x (bM ..))];by_cases e:t=x.t
   · exact ⟨_,aM e⟩
   rw [aE e];refine Gi h (fun y hy=>hl y (bD _ hy)) (hg.imp ?_ id);rintro ⟨y,hy,h2⟩;rcases dK.1 hy with rfl | hy
   · exact absurd h2.symm e
   exact ⟨y,hy,h2⟩
structure F5 where
 f:Nat
 nx:Nat
 args:CV
 hs:List EB
 v:CV
 news:List EB
 nx':Nat
def JR (mm:List F5) (f:Nat) (args:CV) (h:Tr CB) (nx:Nat):Option F5:=
 List.rec none (fun e _ ih=>bif Nat.beq e.f f && (Nat.beq e.nx nx && (UT e.args args && Kf (Gr false h) e.hs)) then some e else ih) mm
def nt (mm:List F5) (c:C5) (r:B3):B3:=match c with
 | .call f args h nx=>(match JR mm f args h nx with | some e=>.ret e.v (vX h e.news) e.nx' | none=>r)
 | _=>r
def ZC (e:F5):Bool:=Nat.ble e.nx e.nx' && (Nat.ble e.nx' uW && (Kf (fun x=>Nat.ble (Nat.succ x.t) e.nx && Nat.ble (Nat.succ x.st) e.nx) e.hs && Kf (fun x=>Nat.ble e.nx x.t && (Nat.ble (Nat.succ x.t) e.nx' && (Nat.ble e.nx x.st && Nat.ble (Nat.succ x.st) e.nx'))) e.news))
def Eg (P:Program) (Φ:A3→Prop) (e:F5):Prop:=ZC e=true∧uP P Φ (.call e.f e.args (vX .e e.hs) e.nx) (.ret e.v (vX (vX .e e.hs) e.news) e.nx')
def D5 (P:Program) (Φ:A3→Prop) (mm:List F5):Prop:=∀ e∈mm,Eg P Φ e
section
variable {P:Program} {Φ:A3→Prop} {pr:wH}
theorem JS {e:F5} (h:ZC e=true):e.nx≤e.nx'∧e.nx'≤uW∧(∀ x∈e.hs,x.t<e.nx∧x.st<e.nx)∧∀ x∈e.news,e.nx≤x.t∧x.t<e.nx'∧e.nx≤x.st∧x.st<e.nx':=by
 unfold ZC at h;simp only [aB] at h;refine ⟨vC h.1,vC h.2.1,fun x hx=>?_,fun x hx=>?_⟩
 · have:=xQ.1 h.2.2.1 x hx;rw [aB] at this;exact ⟨vC this.1,vC this.2⟩
 have:=xQ.1 h.2.2.2 x hx;simp only [aB] at this;exact ⟨vC this.1,vC this.2.1,vC this.2.2.1,vC this.2.2.2⟩
theorem UX {mm:List F5} {f nx:Nat} {args:CV} {h:Tr CB} {e:F5} (hl:JR mm f args h nx=some e):e∈mm∧e.f=f∧e.nx=nx∧e.args=args∧∀ x∈e.hs,Gr false h x=true:=by
 induction mm with
 | nil=>cases hl
 | cons a mm ih =>
   have hl':(bif Nat.beq a.f f && (Nat.beq a.nx nx && (UT a.args args && Kf (Gr false h) a.hs)) then some a else JR mm f args h nx)=some e:=hl;rcases uN hl' with ⟨h1,h2⟩ | ⟨_,h2⟩
   · cases h2;simp only [aB] at h1;exact ⟨bM ..,Ib h1.1,Ib h1.2.1,GV h1.2.2.1,fun x hx=>xQ.1 h1.2.2.2 x hx⟩
   obtain ⟨k1,k2⟩:=ih h2;exact ⟨bD _ k1,k2⟩
theorem Mem.part {ρ:Pl} {w0:E5 Φ} {h:Tr CB} {nx:Nat} {w:World} {hs:List EB} (hm:Mem ρ w0 h nx w) (hlt:∀ x∈hs,x.t<uW) (hst:∀ x∈hs,x.st<nx) (hhas:∀ x∈hs,Gr false h x=true):Mem ρ w0 (vX .e hs) nx w:=by
 have key:∀ {t b},(vX .e hs).get t=some b→∃ x∈hs,x.t=t∧x.cb=b:=fun hb=>(yL .e hlt hb).elim id fun h=>by cases h.2
 have old:∀ {t b},(vX .e hs).get t=some b→∃ c,h.get t=some c:=fun hb=>by
  obtain ⟨x,hx,rfl,_⟩:=key hb;obtain ⟨c,h1,_⟩:=Dm (hhas x hx);exact ⟨c,h1⟩
 refine ⟨hm.upd,fun t b hb=>?_,fun t t' b b' h1 h2 he=>?_,hm.imm,hm.nod,fun c hc=>⟨(hm.kept c hc).1,(hm.kept c hc).2.1,fun t b hb=>?_⟩⟩
 · obtain ⟨x,hx,rfl,rfl⟩:=key hb;obtain ⟨c,h1,_,h3⟩:=Dm (hhas x hx);obtain ⟨q1,q2,q3,o,q4,q5⟩:=hm.own _ _ h1;exact ⟨q1,by rw [UW];exact hst x hx,q3,o,q4,h3 _ _ _ _ q5⟩
 · obtain ⟨c,k1⟩:=old h1;obtain ⟨c',k2⟩:=old h2;exact hm.one _ _ _ _ k1 k2 he
 obtain ⟨c',k1⟩:=old hb;exact (hm.kept c hc).2.2 _ _ k1
theorem ZD {mm:List F5} (hmm:D5 P Φ mm) {c:C5} {r:B3} (hr:uP P Φ c r):uP P Φ c (nt mm c r):=by
 cases c with
 | call f args h nx =>
   show uP P Φ _ (match JR mm f args h nx with | some e=>.ret e.v (vX h e.news) e.nx' | none=>r);split
   · rename_i e he;obtain ⟨h1,rfl,rfl,rfl,h2⟩:=UX he;obtain ⟨hb,hf,hd⟩:=hmm e h1;obtain ⟨b1,b2,b3,b4⟩:=JS hb;refine ⟨hf,fun ρ w0 w vs hm hk hfit=>?_⟩;have hlt:∀ x∈e.hs,x.t<uW:=fun x hx=>bW (b3 x hx).1 (aP b1 b2);have hlt':∀ x∈e.news,x.t<uW:=fun x hx=>bW (b4 x hx).2.1 b2;have m0:=hm.part hlt (fun x hx=>(b3 x hx).2) h2;refine (hd ρ w0 w vs m0 hk hfit).mono fun ex w' ⟨u,ρ',e1,e2,e3,e4⟩=>⟨u,ρ',e1,?_,e3,?_⟩
     all_goals
      have g0:∀ {t b},(vX .e e.hs).get t=some b→∃ c,h.get t=some c∧t<e.nx:=fun hb=>by
       obtain ⟨x,hx,rfl,_⟩:=(yL .e hlt hb).elim id fun h=>by cases h.2
       obtain ⟨c,k1,_⟩:=Dm (h2 x hx);exact ⟨c,k1,(b3 x hx).1⟩
      have unl:∀ {t b},h.get t=some b→(∀ x∈e.hs,x.t≠t)→w'.heap[(ρ t).1]?=w.heap[(ρ t).1]?:=fun {t b} hb hn=>by
       refine e2.old.fr _ (hm.lt hb) (fun t' b' hb' he'=>?_) id;obtain ⟨x,hx,rfl,_⟩:=(yL .e hlt hb').elim id fun h=>by cases h.2
       obtain ⟨c,k1,_⟩:=g0 hb';exact hn x hx (hm.one _ _ _ _ k1 hb he')
      have same:∀ {t b},h.get t=some b→w'.heap[(ρ t).1]?=w.heap[(ρ t).1]?:=fun {t b} hb=>by
       by_cases hin:∃ x∈e.hs,x.t=t
       · obtain ⟨b0,hb0⟩:=Gi (.e:Tr CB) hlt (.inl hin);obtain ⟨b1',hb1⟩:=Gi (vX .e e.hs) hlt' (.inr ⟨b0,hb0⟩);have htn:t<e.nx:=(hm.own t b hb).1;rcases yL (vX .e e.hs) hlt' hb1 with ⟨y,hy,hyt,_⟩ | ⟨_,k2⟩
         · have:=(b4 y hy).1;omega
         obtain ⟨x,hx,hxt,hxc⟩:=(yL .e hlt k2).elim id fun h=>by cases h.2
         exact (e2.old.old t b1' hb1 (by rw [←hxc,UW];exact (b3 x hx).2)).2
       exact unl hb fun x hx hxt=>hin ⟨x,hx,hxt⟩
      have cases2:∀ {t b},(vX h e.news).get t=some b→(e.nx≤t∧(vX (vX .e e.hs) e.news).get t=some b∧e.nx≤Yl b∧Yl b<e.nx')∨(t<e.nx∧h.get t=some b):=fun {t b} hb=>by
       rcases yL h hlt' hb with ⟨x,hx,hxt,hxc⟩ | ⟨_,k2⟩
       · refine .inl ⟨by rw [←hxt];exact (b4 x hx).1,?_,by rw [←hxc,UW];exact (b4 x hx).2.2⟩;have hn0:(vX .e e.hs).get t=none:=by
          cases hg:(vX (.e:Tr CB) e.hs).get t with
          | none=>rfl
          | some c=>obtain ⟨_,_,q⟩:=g0 hg;have:=(b4 x hx).1;omega
         -- the same list on another memory
         have Ws:∀ (l:List EB),(∀ x∈l,x.t<uW)→∀ {b},(vX h l).get t=some b→(∃ x∈l,x.t=t)→(vX (vX .e e.hs) l).get t=some b:=fun l=>by
          induction l with
          | nil=>intro _ b _ hx;obtain ⟨x,hx,_⟩:=hx;cases hx
          | cons y l ih =>
            intro hl b hb hx;have hb':((vX h l).set (some y.cb) uW y.t).get t=some b:=hb;show ((vX (vX .e e.hs) l).set (some y.cb) uW y.t).get t=some b;rw [fE _ _ _ _ _ (hl y (bM ..))] at hb' ⊢;by_cases e:t=y.t
            · rw [aM e] at hb' ⊢;exact hb'
            rw [aE e] at hb' ⊢;obtain ⟨x,hx,hxt⟩:=hx;rcases dK.1 hx with rfl | hx
            · exact absurd hxt.symm e
            exact ih (fun z hz=>hl z (bD _ hz)) hb' ⟨x,hx,hxt⟩
         exact Ws e.news hlt' hb ⟨x,hx,hxt⟩
       exact .inr ⟨(hm.own t b k2).1,k2⟩
     · refine ⟨e2.le,e2.fit,e2.ext,fun t b hb hs=>?_,fun p hp hun hx=>e2.old.fr p hp (fun t b hb he'=>?_) hx,fun t b hb=>?_,e2.old.sz⟩
       · rcases cases2 hb with ⟨_,_,k3,_⟩ | ⟨_,k2⟩
         · omega
         exact ⟨k2,same k2⟩
       · obtain ⟨c,k1,_⟩:=g0 hb;exact hun t c k1 he'
       rcases cases2 hb with ⟨_,k2,_⟩ | ⟨k1,k2⟩
       · rcases e2.old.nw t b k2 with k3 | ⟨t',b',k3,k4⟩
         · exact .inl k3
         obtain ⟨c,k5,_⟩:=g0 k3;exact .inr ⟨t',c,k5,k4⟩
       exact .inr ⟨t,b,k2,by rw [e2.ext t k1]⟩
     have place:∀ {t b},(vX (vX .e e.hs) e.news).get t=some b→e.nx≤t→∀ t' b',h.get t'=some b'→(ρ' t).1≠(ρ t').1:=fun {t b} hb htn t' b' hb' he'=>by
      rcases e2.old.nw t b hb with k3 | ⟨t2,b2,k3,k4⟩
      · have:=hm.lt hb';omega
      obtain ⟨c,k5,k6⟩:=g0 k3;obtain ⟨b3',k7⟩:=Gi (vX .e e.hs) hlt' (.inr ⟨b2,k3⟩);have:=e4.one t t2 _ _ hb k7 (by rw [e2.ext t2 k6];exact k4.symm);omega
     refine ⟨e4.upd,fun t b hb=>?_,fun t t' b b' hb hb' he'=>?_,e4.imm,e4.nod,fun c hc=>⟨(e4.kept c hc).1,(e4.kept c hc).2.1,fun t b hb=>?_⟩⟩
     · rcases cases2 hb with ⟨_,k2,_⟩ | ⟨k1,k2⟩
       · exact e4.own t b k2
       obtain ⟨q1,q2,q3,o,q4,q5⟩:=hm.own t b k2;rw [e2.ext t k1];exact ⟨bW q1 e2.le,bW q2 e2.le,q3,o,(same k2).trans q4,q5.up e2.le e2.ext⟩
     · rcases cases2 hb with ⟨j1,k2,_⟩ | ⟨k1,k2⟩ <;> rcases cases2 hb' with ⟨j1',k2',_⟩ | ⟨k1',k2'⟩
       · exact e4.one t t' b b' k2 k2' he'
       · rw [e2.ext t' k1'] at he';exact absurd he' (place k2 j1 t' b' k2')
       · rw [e2.ext t k1] at he';exact absurd he'.symm (place k2' j1' t b k2)
       rw [e2.ext t k1,e2.ext t' k1'] at he';exact hm.one t t' b b' k2 k2' he'
     rcases cases2 hb with ⟨_,k2,_⟩ | ⟨k1,k2⟩
     · exact (e4.kept c hc).2.2 t b k2
     rw [e2.ext t k1];exact (hm.kept c hc).2.2 t b k2
   · exact hr
 | _=>exact hr
def fu (P:Program) (pr:wH) (mm:List F5) (F:Nat):C5→B3:=Nat.rec (motive:=fun _=>C5→B3) (fun _=>.bad 0 []) (fun _ r c=>nt mm c (step P pr (fq P pr 1000000 r) c)) F
theorem DP (hpr:Ca P Φ pr) {mm:List F5} (hmm:D5 P Φ mm) (F:Nat):GO P Φ (fu P pr mm F):=by
 induction F with
 | zero=>exact fun c=>Fs c 0 []
 | succ F r=>exact fun c=>ZD hmm (Sk hpr (DN hpr _ r) c)
def fw (P:Program) (pr:wH) (mm:List F5) (F:Nat) (c:C5):B3:=step P pr (fq P pr 1000000 (fu P pr mm F)) c
def nu (e:F5) (r:B3):Bool:=ZC e && (match r with
 | .ret v h nx=>UT v e.v && (Nat.beq nx e.nx' && (Kf (Gr true h) e.hs && Kf (Gr false h) e.news))
 | _=>false)
theorem zM (hpr:Ca P Φ pr) {mm:List F5} (hmm:D5 P Φ mm) (F:Nat) (e:F5) (h:nu e (fw P pr mm F (.call e.f e.args (vX .e e.hs) e.nx))=true):Eg P Φ e:=by
 have H:uP P Φ (.call e.f e.args (vX .e e.hs) e.nx) (fw P pr mm F (.call e.f e.args (vX .e e.hs) e.nx)):=Sk hpr (DN hpr _ (DP hpr hmm F)) _;unfold nu at h;rw [aB] at h;obtain ⟨hb,h⟩:=h;refine ⟨hb,?_⟩;obtain ⟨b1,b2,b3,b4⟩:=JS hb;revert H h;generalize fw P pr mm F (.call e.f e.args (vX .e e.hs) e.nx)=r;intro H h;cases r with
 | bad=>cases h
 | ok=>cases h
 | ret v h' nx' =>
   simp only [aB] at h;obtain ⟨h1,h2,h3,h4⟩:=h;have e1:=GV h1;have e2:=Ib h2;subst e1 e2;refine ⟨H.1,fun ρ w0 w vs hm hk hfit=>(H.2 ρ w0 w vs hm hk hfit).mono fun ex w' ⟨u,ρ',k1,k2,k3,k4⟩=>⟨u,ρ',k1,?_,k3,?_⟩⟩;all_goals
    have hlt:∀ x∈e.hs,x.t<uW:=fun x hx=>bW (b3 x hx).1 (aP b1 b2);have hlt':∀ x∈e.news,x.t<uW:=fun x hx=>bW (b4 x hx).2.1 b2;have key:∀ {t b},(vX (vX .e e.hs) e.news).get t=some b→∃ x:EB,x.t=t∧x.cb=b∧((x∈e.news∧Gr false h' x=true)∨(x∈e.hs∧Gr true h' x=true∧(vX .e e.hs).get t=some b)):=fun {t b} hb=>by
     rcases yL (vX .e e.hs) hlt' hb with ⟨x,hx,hxt,hxc⟩ | ⟨_,q⟩
     · exact ⟨x,hxt,hxc,.inl ⟨hx,xQ.1 h4 x hx⟩⟩
     obtain ⟨x,hx,hxt,hxc⟩:=(yL .e hlt q).elim id fun h=>by cases h.2
     exact ⟨x,hxt,hxc,.inr ⟨hx,xQ.1 h3 x hx,q⟩⟩
    have has:∀ {t b},(vX (vX .e e.hs) e.news).get t=some b→∃ c,h'.get t=some c∧∀ (s:Nat) (o:Obj),DB e.nx' ρ' s c o→DB e.nx' ρ' s b o:=fun {t b} hb=>by
     obtain ⟨x,rfl,rfl,q⟩:=key hb;rcases q with ⟨_,q⟩ | ⟨_,q,_⟩
     · obtain ⟨c,q1,_,q2⟩:=Dm q;exact ⟨c,q1,q2 _ _⟩
     obtain ⟨c,q1,_,q2⟩:=Dm q;exact ⟨c,q1,q2 _ _⟩
   · refine ⟨k2.le,k2.fit,k2.ext,fun t b hb hs=>?_,k2.old.fr,fun t b hb=>?_,k2.old.sz⟩
     · obtain ⟨x,rfl,rfl,q⟩:=key hb;rw [UW] at hs;rcases q with ⟨q,_⟩ | ⟨q0,q,q3⟩
       · have:=(b4 x q).2.2.1;omega
       obtain ⟨c,q1,q2,_⟩:=Dm q;exact ⟨q3,(k2.old.old x.t c q1 (by rw [q2 rfl];exact hs)).2⟩
     obtain ⟨c,q1,_⟩:=has hb;exact k2.old.nw t c q1
   refine ⟨k4.upd,fun t b hb=>?_,fun t t' b b' hb hb' he'=>?_,k4.imm,k4.nod,fun c hc=>⟨(k4.kept c hc).1,(k4.kept c hc).2.1,fun t b hb=>?_⟩⟩
   · obtain ⟨c,q1,q2⟩:=has hb;obtain ⟨g1,g2,g3,o,g4,g5⟩:=k4.own t c q1;refine ⟨g1,?_,g3,o,g4,q2 _ _ g5⟩;obtain ⟨x,rfl,rfl,q⟩:=key hb;rw [UW];rcases q with ⟨q,_⟩ | ⟨q,_⟩
     · exact (b4 x q).2.2.2
     have:=(b3 x q).2;omega
   · obtain ⟨c,q1,_⟩:=has hb;obtain ⟨c',q1',_⟩:=has hb';exact k4.one t t' c c' q1 q1' he'
   obtain ⟨c',q1,_⟩:=has hb;exact (k4.kept c hc).2.2 t c' q1
theorem D5.nil:D5 P Φ []:=fun e h=>xY
abbrev lM:=@D5.nil
theorem D5.cons {e:F5} {mm:List F5} (h:Eg P Φ e) (k:D5 P Φ mm):D5 P Φ (e :: mm):=fun x hx=>by
 rcases dK.1 hx with rfl | hx
 · exact h
 exact k x hx
abbrev lJ:=@D5.cons
theorem GW {f:Nat} (pr:wH) (hpr:Ca P Φ pr) {mm:List F5} (hmm:D5 P Φ mm) (F:Nat) (h:UB (fu P pr mm F (.call f .nil .e 0))=true) (G:A3) (hG:Φ G):Does P f [] G [] (fun v G' Ho=>v=.bool true∧G'=G∧Ho=[]):=
 NT (DP hpr hmm F _) h G hG
end
end Go.Sl.Ev
namespace Go.Proofs.YtngphgeghfdjbaaGreatDoor
open Go Go.Sl Go.Sl.Ev
section
set_option maxRecDepth 1000000
def vf (l:CV):Option CV:=match l with
 | .cons (.int .u64 c) .nil=>bif Lw (KP c) 0 then none else some (.int .i64 (KP c))
 | _=>none
def tzP:wH:=[(269,vf)]
theorem Gs:Ca Tryz.prog TabOk tzP:=by
 intro f g h;have h':(bif Nat.beq 269 f then some vf else none)=some g:=h;rcases uN h' with ⟨h1,h2⟩ | ⟨_,h2⟩
 · have:=aD h1;subst this;cases h2;refine ⟨T.fn269,fun args v hv G hG nx ρ vs hk=>?_⟩;unfold vf at hv;split at hv
   · rename_i c;rcases uN hv with ⟨_,h2⟩ | ⟨h1,h2⟩
     · cases h2
     cases h2;rw [yR,eZ] at h1;obtain ⟨u,r,rfl,k1,k2⟩:=mJ.1 hk.2;have e1:=iJ.1 k1;have e2:=DL.nil.1 k2;subst e1 e2;exact ⟨_,Aa,pu G hG c h1⟩
   cases hv
 cases h2
end
end Go.Proofs.YtngphgeghfdjbaaGreatDoor
end

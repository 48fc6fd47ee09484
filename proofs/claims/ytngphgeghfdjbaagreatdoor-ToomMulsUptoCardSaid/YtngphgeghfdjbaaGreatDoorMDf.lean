/- wG of the proof (part 6): what the rows' text needs of the texts that lead to it. -/
import Derived.Test.YtngphgeghfdjbaaGreatDoorMDe
set_option linter.unusedVariables false
set_option linter.unusedSimpArgs false
set_option linter.unusedSectionVars false
set_option maxHeartbeats 4000000
set_option maxRecDepth 100000
namespace Go.Proofs.YtngphgeghfdjbaaGreatDoor
open Go Go.Sl
theorem Qd (n:Nat):Qc ((xP n).map (· - 48)) 0=n:=by
 unfold xP;split
 · rename_i h;subst h;rfl
 rw [gY];have:((fun x=>x - 48) ∘ fun x:Nat=>48+x)=id:=by funext x;show 48+x - 48=x;omega
 rw [this,List.map_id,RM]
theorem Vb {m n:Nat} (h:xP m=xP n):m=n:=by rw [←Qd m,h,Qd]
theorem RP (n:Nat):xP n≠[]:=fun e=>by
 unfold xP at e;split at e
 · cases e
 rename_i h;have h1:=pU.1 e;exact BB h (List.reverse_eq_nil_iff.1 h1)
theorem Qe (n:Nat) (l:List Nat):xP n≠45 :: l:=fun e=>by
 have:=Qb (n:=n) (d:=45) (by rw [e];exact bM);omega
theorem RQ {x y:Int} (h:Hm x=Hm y):x=y:=by
 unfold Hm at h;by_cases hx:x<0 <;> by_cases hy:y<0
 · rw [aM hx,aM hy] at h;have h1:=Vb (List.append_cancel_left h);omega
 · rw [aM hx,aE hy] at h;exact (Qe _ _ h.symm).elim
 · rw [aE hx,aM hy] at h;exact (Qe _ _ h).elim
 rw [aE hx,aE hy] at h;have h1:=Vb (List.append_cancel_left h);omega
theorem Nn {z:Int} {d:Nat} (h:d∈Hm z):d<128:=by
 unfold Hm at h;rcases eL.1 h with h | h
 · split at h
   · rw [lN] at h;omega
   cases h
 have:=Qb h;omega
def byB (l:List Nat):List UInt8:=l.map UInt8.ofNat
theorem BK {l:List Nat} (h:∀ d∈l,d<256):(byB l).map UInt8.toNat=l:=by
 unfold byB;rw [gY];induction l with
 | nil=>rfl
 | cons d l ih =>
   rw [cA,ih fun x hx=>h x (bD _ hx)];have:=h d bM;show (UInt8.ofNat d).toNat :: l=d :: l;rw [nU,eS uJ]
theorem XF {l m:List Nat} (hl:∀ d∈l,d<256) (hm:∀ d∈m,d<256) (h:byB l=byB m):l=m:=by rw [←BK hl,h,BK hm]
theorem XG (l:List Nat):(byB l).length=l.length:=by simp [byB]
def Te (z:Int):List UInt8:=byB (Hm z)
theorem RR {x y:Int}:Te x=Te y↔x=y:=⟨fun h=>RQ (XF (fun d hd=>by have:=Nn hd;omega) (fun d hd=>by have:=Nn hd;omega) h),fun h=>by rw [h]⟩
def Dn (l:List Nat):List U8:=l.map fun d:Nat=>⟨((d:Nat):Int)⟩
theorem Cj (l:List Nat):(Dn l).length=l.length:=by simp [Dn]
theorem Bt (l m:List Nat):Dn (l++m)=Dn l++Dn m:=by simp [Dn]
theorem An {l:List Nat} (h:∀ d∈l,d<256):uT (Dn l)=Tx.u8s (byB l):=by
 induction l with
 | nil=>rfl
 | cons d l ih =>
   have h1:=ih fun x hx=>h x (bD _ hx);have h2:=h d bM;show uT ((⟨(d:Int)⟩:U8) :: Dn l)=Value.int .u8 ((UInt8.ofNat d).toNat:Int) :: Tx.u8s (byB l);rw [xT,h1,nU,eS uJ];rfl
def Hn (c:UInt8):List UInt8→List UInt8
 | []=>[]
 | x :: l=>if x=c then Hn c l else x :: l
theorem BL:∀ {l:List Nat},(∀ d∈l,d<256)→Hn 48 (byB l)=byB (cutL l)
 | [],_=>rfl
 | d :: l,h=>by
   have h2:=h d bM;show (if UInt8.ofNat d=48 then Hn 48 (byB l) else UInt8.ofNat d :: byB l)=byB (if d=48 then cutL l else d :: l);by_cases hd:d=48
   · subst hd;rw [aM (show UInt8.ofNat 48=48 from rfl),aM rfl,BL fun x hx=>h x (bD _ hx)]
   rw [aE hd,aE (fun e=>hd (by
    have h3:=congrArg UInt8.toNat e;rw [nU,eS uJ] at h3;exact h3))]
   rfl
theorem Vc:∀ (r p:Nat),Dy (r+1) p=Dy r p++[p / 10 ^ r % 10]
 | 0,p=>by
   show [p % 10]=[p / 10 ^ 0 % 10];rw [iK,Nat.div_one]
 | r+1,p=>by
   show (p % 10) :: Dy (r+1) (p / 10)=(p % 10) :: (Dy r (p / 10)++[p / 10 ^ (r+1) % 10]);rw [Vc r (p / 10),rP,dM,eG 10]
def Fi (r p:Nat):List U8:=List.replicate (9 - r) ⟨0⟩++Dn ((Dy r p).reverse.map (48+·))
theorem MB {r p:Nat} (h:r≤9):(Fi r p).length=9:=by
 unfold Fi;rw [aI,aC,Cj,aW,nG,Pz];omega
theorem FD (p:Nat):Fi 0 p=List.replicate 9 ⟨0⟩:=rfl
theorem FE (p:Nat):Fi 9 p=Dn (Aq p):=rfl
theorem MC {r p:Nat} (h:r<9):(Fi r p).set (8 - r) ⟨((48+p / 10 ^ r % 10:Nat):Int)⟩=Fi (r+1) p:=by
 unfold Fi;rw [Vc,pS,iL,show 9 - r=(8 - r)+1 by omega,show 9 - (r+1)=8 - r by omega,List.replicate_succ',cU,
  List.set_append_right _ _ (by rw [aC];exact aG _),aC,iW]
 rfl
theorem No {p d:Nat} (h:d∈Aq p):d<256:=by
 unfold Aq at h;obtain ⟨x,hx,rfl⟩:=cV.1 h;have:∀ (k p x:Nat),x∈Dy k p→x<10:=fun k=>by
  induction k with
  | zero=>intro p x hx;cases hx
  | succ k ih =>
    intro p x hx;rcases dK.1 hx with rfl | hx
    · omega
    exact ih _ _ hx
 have:=this _ _ _ (uF.1 hx);omega
theorem BM:∀ {l:List Nat} {d:Nat},d∈cutL l→d∈l
 | [],_,h=>h
 | c :: l,d,h=>by
   unfold cutL at h;split at h
   · exact bD _ (BM h)
   exact h
theorem FG {ps:List Nat} {i p:Nat} (hi:i+1=ps.length) (hp:ps[i]?=some p):Am (ps.drop i)=cutL (Aq p):=by
 have h1:=eN (l:=ps) (i:=i) uJ;rw [h1,cY uJ];rw [aA uJ] at hp;cases hp;rfl
theorem FH {ps:List Nat} {i p:Nat} (hi:i+1<ps.length) (hp:ps[i]?=some p):Am (ps.drop i)=Am (ps.drop (i+1))++Aq p:=by
 have h1:=eN (l:=ps) (i:=i) uJ;have h2:=eN (l:=ps) (i:=i+1) uJ;rw [aA uJ] at hp;cases hp;rw [h1,h2];rfl
theorem Lo:∀ ps:List Nat,(Am ps).length≤9*ps.length
 | []=>aG _
 | [p]=>by
   show (cutL (Aq p)).length≤9;have:∀ l:List Nat,(cutL l).length≤l.length:=fun l=>by
    induction l with
    | nil=>exact aG _
    | cons c l ih =>
      unfold cutL;split
      · rw [bN];omega
      exact aG _
   have h:=this (Aq p);rw [Jn] at h;exact h
 | p :: q :: l=>by
   show (Am (q :: l)++Aq p).length≤_;rw [aI,Jn,bN];have:=Lo (q :: l);omega
def D7 (n:Nat) (ps:List Nat) (m:Nat):Prop:=
 (∀ w,m<(10 ^ 9) ^ w→n<(10 ^ 9) ^ (ps.length+w)∧wK (10 ^ 9) (ps.length+w) n=ps++wK (10 ^ 9) w m)∧m*2 ^ ps.length≤n∧∀ p∈ps,p<10 ^ 9
theorem D7.start (n:Nat):D7 n [] n:=by
 refine ⟨fun w hw=>?_,?_,fun p hp=>by cases hp⟩
 · rw [cR,cF];exact ⟨hw,U⟩
 rw [cR,iK,jT];exact aG _
theorem D7.step {n m:Nat} {ps:List Nat} (h:D7 n ps m) (hm:m≠0):D7 n (ps++[m % 10 ^ 9]) (m / 10 ^ 9):=by
 obtain ⟨h1,h2,h3⟩:=h;refine ⟨fun w hw=>?_,?_,fun p hp=>?_⟩
 · have hw':m<(10 ^ 9) ^ (w+1):=by rw [dM];exact (eY uR).1 hw
   obtain ⟨g1,g2⟩:=h1 (w+1) hw';rw [aI,gJ,show ps.length+1+w=ps.length+(w+1) by omega];refine ⟨g1,?_⟩;rw [g2,Bj hm,cU];rfl
 · rw [aI,gJ,dM];have h4:m / 10 ^ 9*2≤m:=uJ;calc m / 10 ^ 9*(2 ^ ps.length*2)=(m / 10 ^ 9*2)*2 ^ ps.length:=by ac_rfl
    _≤m*2 ^ ps.length:=dQ _ h4
    _≤n:=h2
 rcases eL.1 hp with hp | hp
 · exact h3 p hp
 rw [lN] at hp;subst hp;exact iX _ uR
theorem D7.done {n:Nat} {ps:List Nat} (h:D7 n ps 0):wK (10 ^ 9) ps.length n=ps∧n<(10 ^ 9) ^ ps.length:=by
 obtain ⟨g1,g2⟩:=h.1 0 uR;rw [fQ] at g1 g2;rw [xL,fH] at g2;exact ⟨g2,g1⟩
theorem D7.nil {n:Nat} (h:D7 n [] 0):n=0:=by
 have:=h.done.2;rw [cR,iK] at this;omega
theorem D7.text {n:Nat} {ps:List Nat} (h:D7 n ps 0) (hn:ps≠[]):Am ps=xP n:=by
 obtain ⟨g1,g2⟩:=h.done;have h0:n≠0:=fun e=>hn (by rw [←g1,e,xL]);rw [←LX g2 h0,g1]
theorem D7.len {n m L:Nat} {ps:List Nat} (h:D7 n ps m) (hm:m≠0) (hn:n<2 ^ L):ps.length<L:=by
 have h2:2 ^ ps.length≤n:=aP (by rw [eG];exact jX _ uJ) h.2.1;exact (nJ uR).1 (kM h2 hn)
section
variable {α:Type} [Inhabited α]
def Hq (l:List α) (i:Nat):List α:=(List.range l.length).map fun j=>if j<i∨l.length≤j+i then l[l.length - 1 - j]?.getD default else l[j]?.getD default
theorem Bu (l:List α) (i:Nat):(Hq l i).length=l.length:=by simp [Hq]
theorem Db (l:List α) (i:Nat) {j:Nat} (hj:j<l.length):(Hq l i)[j]?=some (if j<i∨l.length≤j+i then l[l.length - 1 - j]?.getD default else l[j]?.getD default):=by
 unfold Hq;rw [bJ,dP hj];rfl
theorem Vd (l:List α):Hq l 0=l:=by
 apply dW;intro j;by_cases hj:j<l.length
 · rw [Db l 0 hj,aE (by omega),aA hj];rfl
 rw [bF (by rw [Bu];omega),bF uJ]
theorem Ve {l:List α} {i:Nat} (h1:l.length / 2≤i) (h2:i≤l.length / 2):Hq l i=l.reverse:=by
 apply dW;intro j;by_cases hj:j<l.length
 · rw [Db l i hj,List.getElem?_reverse hj];have hs:l[l.length - 1 - j]?=some (l[l.length - 1 - j]?.getD default):=by
    rw [aA uJ];rfl
   by_cases hc:j<i∨l.length≤j+i
   · rw [aM hc,hs];rfl
   rw [aE hc,hs];have:l.length - 1 - j=j:=uJ;rw [this]
 rw [bF (by rw [Bu];omega),bF (by rw [nG];omega)]
theorem Vf {l:List α} {i:Nat} (h:i<l.length / 2) :
 ((Hq l i).set i ((Hq l i)[l.length - 1 - i]?.getD default)).set (l.length - 1 - i) ((Hq l i)[i]?.getD default)=Hq l (i+1):=by
 have ha:(Hq l i)[i]?.getD default=l[i]?.getD default:=by
  rw [Db l i uJ,aE (by omega)];rfl
 have hb:(Hq l i)[l.length - 1 - i]?.getD default=l[l.length - 1 - i]?.getD default:=by
  rw [Db l i uJ,aE (by omega)];rfl
 rw [ha,hb];apply dW;intro j;by_cases hj:j<l.length
 · rw [Db l (i+1) hj,gL,gL,aJ,Bu];by_cases h1:l.length - 1 - i=j
   · rw [aM h1,aM (by omega),aM (by omega),show l.length - 1 - j=i by omega]
   rw [aE h1];by_cases h2:i=j
   · subst h2;rw [aM rfl,aM (by omega),aM (by omega)]
   rw [aE h2,Db l i hj];by_cases hc:j<i∨l.length≤j+i
   · rw [aM hc,aM (by omega)]
   rw [aE hc,aE (by omega)]
 rw [bF (by rw [aJ,aJ,Bu];omega),bF (by rw [Bu];omega)]
end
theorem MD {c:UInt8} {l:List UInt8} (h:0<(l.length:Int)∧(((l[(0:Int).toNat]?.getD 0).toNat:Nat):Int)=((c.toNat:Nat):Int)):Hn c (l.drop (1:Int).toNat)=Hn c l∧(l.drop (1:Int).toNat).length<l.length:=by
 cases l with
 | nil=>exact absurd h.1 vL
 | cons x l =>
   have hx:x=c:=UInt8.toNat_inj.1 (Int.ofNat.inj h.2);exact ⟨(aM hx).symm,by show l.length<l.length+1;omega⟩
theorem ME {c:UInt8} {l:List UInt8} (h:¬(0<(l.length:Int)∧(((l[(0:Int).toNat]?.getD 0).toNat:Nat):Int)=((c.toNat:Nat):Int))):Hn c l=l:=by
 cases l with
 | nil=>rfl
 | cons x l =>
   have hx:x≠c:=fun e=>h ⟨by show 0<((l.length+1:Nat):Int);omega,by subst e;rfl⟩;exact aE hx
theorem ry (G:A3) (bs:List UInt8) (c:UInt8) :
 Does Tryz.prog 242 [.string ⟨bs.toArray⟩,.int .u8 c.toNat] G [] (fun v G' Ho=>v=.string ⟨(Hn c bs).toArray⟩∧G'=G∧Ho=[]):=by
 refine bU Tryz.func242 U Tryz.ntmps242 U fun w=>?_;refine dN 7 [] ?_;refine mW (ι:=List UInt8) (fun l=>([(0,.string ⟨l.toArray⟩),(1,.int .u8 c.toNat),(4,Go.Value.string (ByteArray.mk #[]))],[])) (fun l=>Hn c l=Hn c bs) (fun l=>l.length) (bs) (rfl) ⟨U,U,U,I8⟩ I8 fun l=>fun (hk:Hn c l=Hn c bs)=>?_;by_cases hl:0<(l.length:Int)∧(((l[(0:Int).toNat]?.getD 0).toNat:Nat):Int)=((c.toNat:Nat):Int)
 · obtain ⟨e1,e2⟩:=MD hl;have e3:=e1.trans hk;refine aL 4 [] ?_;refine aU U (tZ T.u9 U) ?_;refine aF 2 [] ?_;refine rX 8 U vG ?_;refine aF 3 [] ?_;refine aU U (uA T.u9 U U uJ) ?_;refine aN 13 [1] ?_;refine aU U (EY T.u9 U U uJ) ?_;refine bA 3 [] ?_;refine eK (l.drop (1:Int).toNat) ?_ ?_ U ⟨U,U,U,I8⟩ I8
   · exact e3
   exact e2
 have e1:=(ME hl).symm.trans hk;refine aL 4 [] ?_;refine aU U (tZ T.u9 U) ?_;refine aF 2 [] ?_;apply gE 5 8 13 U;intro hg1;refine aF 3 [] ?_;refine aU U (uA T.u9 U U uJ) ?_;refine aF 5 [] ?_;exact kR 5 0 U U U U U;intro hg1;refine aF 5 [] ?_;exact kR 5 0 U U U U U;refine bA 15 [0] ?_;refine cZ ?_;exact ⟨by rw [e1],U,U⟩
theorem rz (G:A3) (bs:List UInt8) :
 Does Tryz.prog 199 [.string ⟨bs.toArray⟩,.string ⟨#[48]⟩] G [] (fun v G' Ho=>v=.string ⟨(Hn 48 bs).toArray⟩∧G'=G∧Ho=[]):=by
 refine bU Tryz.func199 U Tryz.ntmps199 U fun w=>?_;refine aL 9 [] ?_;refine aU U (Ll U U) ?_;refine aF 1 [] ?_;apply fG 3 9 12 U;intro hg1;refine aF 3 [] ?_;refine aU U (Ll U U) ?_;refine aF 1 [] ?_;exact kR 3 0 U U U U U;intro hg1;refine aF 3 [] ?_;exact kR 3 0 U U U U U;refine bY 2 [] ?_;refine jF U (fun hc1=>?_) fun hc1=>?_;refine cJ 8 [] ?_;refine cZ ?_;rotate_left;refine aL 6 [] ?_;refine aU U (tZ T.u9 U) ?_;refine aF 2 [] ?_;apply gE 4 17 21 U;intro hg1;refine aF 3 [] ?_;refine aU U (uA T.u9 U U uJ) ?_;refine aF 3 [] ?_;exact kR 4 0 U U U U U;intro hg1;refine aF 4 [] ?_;exact kR 4 0 U U U U U;refine bY 2 [] ?_;refine jF U (fun hc2=>?_) fun hc2=>?_;refine aL 4 [] ?_;refine aU U (uA T.u9 U U uJ) ?_;refine dC U (ry _ _ _) ?_;refine bA 5 [] ?_;refine cZ ?_;rotate_left;refine aL 6 [] ?_;rotate_left
 · rcases hc1 with rfl | h
   · exact ⟨U,U,U⟩
   cases h
 · exact ⟨U,U,U⟩
 exact absurd ⟨U,by decide⟩ hc2
abbrev FI (pa:Option Addr) (a:Option Addr) (n c:Nat):Obj:=.cells #[.pointer pa,.slice a n c] 286 (0,0)
theorem sa (G:A3) (b:Nat) (pa a:Option Addr) (n c:Nat) (hp:pa=none∨pa=some ⟨b,0,none⟩) :
 Does Tryz.prog 246 [.pointer (some ⟨b,0,none⟩)] G [(0,some b,FI pa a n c)] (fun v G' Ho=>v=.tuple #[]∧G'=G∧Ho=[(0,some b,FI (some ⟨b,0,none⟩) a n c)]):=by
 refine bU Tryz.func246 U Tryz.ntmps246 U fun w=>?_;rcases hp with rfl | rfl
 · have h0:(none:Option Addr)=none:=rfl;refine aL 6 [0] ?_;refine aU U (Qy.eqlPtrNil uO U U) ?_;refine aN 6 [1] ?_;refine aU U (BF (u:=286) (k:=1) 0 uO uO uO U U U) ?_;refine aU U (BH (fn:=Tryz.f289) uO U U U U) ?_;refine aU U (BG (u:=286) (n:=2) 0 uO uO uO U U U uO) ?_;refine bA 4 [0] ?_;refine HF (.inl U) (Ho:=Hp.only _ [0]) U  (aV _ _) ?_;exact ⟨U,U,U⟩
 have h0:¬((some ⟨b,0,none⟩:Option Addr)=none):=vL;refine aL 6 [0] ?_;refine aU U (Qy.eqlPtrNil uO U U) ?_;refine aN 10 [0,0] ?_;refine aU U (Td (u:=286) (k:=1) uO uO U U) ?_;refine bA 4 [0] ?_;refine HF (.inl U) (Ho:=Hp.only _ [0]) U  (aV _ _) ?_;exact ⟨U,U,U⟩
theorem jm (G:A3) (b:Nat) (pa a:Option Addr) (c:Nat) (xs ys:List U8) (junk:List Value) (bs:List UInt8) (hp:pa=none∨pa=some ⟨b,0,none⟩) (ho:A5 a c xs junk) (hys:uT ys=Tx.u8s bs) (hl:xs.length+ys.length≤140737488355328) :
 Does Tryz.prog 200 [.pointer (some ⟨b,0,none⟩),.string ⟨bs.toArray⟩] G [(0,some b,FI pa a xs.length c),(1,a.map (·.block),Row 5 xs junk)] (fun v G' Ho=>∃ (a':Option Addr) (c':Nat) (junk':List Value),A5 a' c' (xs++ys) junk'∧G'=G∧
  Ho=[(0,some b,FI (some ⟨b,0,none⟩) a' (xs++ys).length c'),(1,a'.map (·.block),Row 5 (xs++ys) junk')]):=by
 refine bU Tryz.func200 U Tryz.ntmps200 U fun w=>?_;refine aL 9 [] ?_;refine cQ 0 U (sa _ _ _ _ _ _ hp) fun v1 G1 Ho1 hle1 hp=>?_;obtain ⟨rfl,rfl,rfl⟩:=hp;refine aN 10 [0] ?_;refine FA (α:=U8) 1 ys U T.sl177 T.u9 T.el5 U U U U ho hys uJ (by simp only [maxLen];omega) fun a1 c1 junk1 ho1=>?_;refine aN 8 [0] ?_;refine aU U (tZ T.u9 U) ?_;refine bA 5 [] ?_;refine jZ (.inr U) (Ho:=Hp.only _ [0,1]) U (.tmp U) (.tmp U) (aV _ _) ?_;exact ⟨_,_,_,ho1,U,U⟩
theorem sb (G:A3) (b:Nat) (pa a:Option Addr) (c:Nat) (xs:List U8) (junk:List Value) (bs:List UInt8) (ho:A5 a c xs junk) (hys:uT xs=Tx.u8s bs) (hne:bs≠[]) :
 Does Tryz.prog 201 [.pointer (some ⟨b,0,none⟩)] G [(0,some b,FI pa a xs.length c),(1,a.map (·.block),Row 5 xs junk)] (fun v G' Ho=>v=.string ⟨bs.toArray⟩∧G'=G∧Ho=[]):=by
 have hx:0<xs.length:=by
  rcases dD xs.length with h | h
  · have h2:xs=[]:=bS h;subst h2;exact absurd (pU.1 hys.symm) hne
  exact h
 rcases ho with ⟨rfl,rfl,rfl,rfl⟩ | ⟨bb,rfl,hj,hc,hcm⟩
 · exact absurd hx vL
 have hm:xs.length≤maxLen:=aP hc hcm;refine bU Tryz.func201 U Tryz.ntmps201 U fun w=>?_;refine dN 6 [] ?_;refine gV [1,0] [(1,10)] T.mixed U ?_;refine bO 0 [] [] ?_;refine bO 1 [] [] ?_;refine bO 2 [] [] ?_;refine bO 3 [0] [0] ?_;refine eP 4 [] U (Ye U vG) ?_;refine bO 5 [] [] ?_;refine bO 6 [] [] ?_;refine bO 7 [] [] ?_;refine bO 8 [0] [0] ?_;refine bO 9 [] [] ?_;refine fC 10 ?_;refine EZ (α:=U8) 1 bs U uO uO U U U U hys hne hm ?_;refine dG ?_;refine bO 11 [] [] ?_;refine eI ?_;refine iN 2 [] ?_;refine cZ ?_;exact ⟨U,U,U⟩
section
attribute [local irreducible] uM pb uZ Am wK D7 Fi Aq xP byB Dn Hn cutL
def BN (l:List Nat):List A4:=l.map fun d:Nat=>⟨((d:Nat):Int)⟩
theorem MF (l:List Nat) (d:Nat):BN (l++[d])=BN l++[⟨((d:Nat):Int)⟩]:=by unfold BN;rw [iL];rfl
theorem Qf (l:List Nat):(BN l).length=l.length:=by unfold BN;rw [aW]
theorem XH {l:List Nat} {i:Nat} (h:i<l.length):(BN l)[i]?.getD default=⟨((l[i]?.getD 0:Nat):Int)⟩:=by
 unfold BN;rw [bJ,aA h];rfl
theorem RU {m:Nat} {q r:Int} (h:(m:Int)=q*1000000000+r) (h0:0≤r) (h1:r<1000000000):r=((m % 10 ^ 9:Nat):Int)∧q=((m / 10 ^ 9:Nat):Int):=uJ
theorem D7.lt {n m:Nat} {ps:List Nat} (h:D7 n ps m):∀ p∈ps,p<10 ^ 9:=by unfold D7 at h;exact h.2.2
theorem pw2 (n:Nat):pb n=((2 ^ (32*n):Nat):Int):=by
 unfold pb;rw [sD]
theorem IE:∀ l:List Nat,(cutL l).length≤l.length
 | []=>by unfold cutL;exact aG _
 | c :: l=>by
   unfold cutL;split
   · rw [bN];have:=IE l;omega
   exact aG _
theorem sc (G:A3) (a:Option Addr) (ca:Nat) (la:List A4) (ha:Arr G a la) (da:A6 la) (h1:la.length≤1073741824) (hc:la.length≤ca) :
 Does Tryz.prog 154 [.slice a la.length ca] G [] (fun v G' Ho=>v=.string ⟨(byB (xP (uM la).toNat)).toArray⟩∧Ho=[]):=by
 refine bU Tryz.func154 U Tryz.ntmps154 U fun w=>?_;refine gA 9 (Row 166 ([]:List A4) []) ?_;refine aL 14 [] ?_;refine cQ 0 U (WI G a ca la ha h1 hc) fun v1 G1 Ho1 hle1 hp=>?_;obtain ⟨xa1,xl1,rfl,hA1,hB1,hC1,hD1,rfl⟩:=hp;have hv1:uM xl1=uM la:=by rw [hB1];exact hC1.val
 have ht1:E8 xl1:=by rw [hB1];exact hC1.top
 have dl1:A6 xl1:=by rw [hB1];exact fun d hd=>da d (sF hd)
 have h0:=vD da;obtain ⟨n,hn⟩:∃ n:Nat,uM la=(n:Int):=⟨(uM la).toNat,by omega⟩
 have hnn:(uM la).toNat=n:=uJ;rw [hnn];have hnL:n<2 ^ (32*la.length):=by
  have:=wL da;rw [hn,pw2] at this;exact oN.1 this
 clear hnn;refine bY 4 [] ?_;refine fX (ι:=List A4×Nat×A3×((Option Addr×List A4)×(Option Addr×Nat×List Value))) (fun (rs,m,Gx,((xa,xl),(o,d,j)))=>([(3,.slice o rs.length d),(4,.slice xa xl.length xl.length),(2,Go.Value.string (ByteArray.mk #[]))],[(9,o.map (·.block),Row 166 rs j)])) (fun (rs,m,Gx,((xa,xl),(o,d,j)))=>Gx) (fun (rs,m,Gx,((xa,xl),(o,d,j)))=>(∃ ps,rs=BN ps∧D7 n ps m∧ps.length≤34359738368)∧G.le Gx∧Arr Gx xa xl∧A6 xl∧E8 xl∧uM xl=(m:Int)∧xl.length≤la.length∧A5 o d rs j) (fun (rs,m,Gx,((xa,xl),(o,d,j)))=>m) (([],n,G1,((xa1,xl1),(none,0,[])))) (⟨⟨[],U,D7.start n,by decide⟩,hle1,hA1,dl1,ht1,by rw [hv1,hn],hD1,fN⟩) U ⟨U,U,U,I8⟩ ⟨U,I8⟩ fun ⟨rs,m,Gx,((xa,xl),(o,d,j))⟩=>fun hk=>?_;obtain ⟨⟨ps,hps,hP,hPL⟩,hgx,hAx,dlx,htx,hvx,hlx,hox⟩:=hk;have hpos:=E9.pos (Mq htx) dlx;rcases dD m with hm | hm
 · subst hm;have hx0:¬(0<(xl.length:Int)):=uJ;by_cases hr:(rs.length:Int)=0
   · have hps0:ps=[]:=bS (by rw [←Qf,←hps];omega);subst hps0;have hn0:=hP.nil;subst hn0;refine cJ 30 [0,1] ?_;refine cZ ?_;exact ⟨by unfold xP byB;rfl,U⟩
   have hrl:rs.length=ps.length:=by rw [hps,Qf]
   have hnn:ps≠[]:=fun e=>hr (by rw [hrl,e];rfl);have htxt:=hP.text hnn;have htl:=Lo ps;have hpsl:ps.length≤34359738368:=hPL;refine aL 27 [0,0] ?_;refine bB 10 U T.zero286 fun b1=>?_;refine bY 12 [] ?_;refine oG 9 U hox fun G9 hle9 hAr=>?_;refine gA 11 (Row 5 ([]:List U8) []) ?_;refine fX (ι:=Int×List U8×(Option Addr×(Option Addr×Nat×List Value))) (fun (i,cs,(pa,(oo,dd,jj)))=>([(3,.slice o rs.length d),(8,.pointer (some ⟨b1,0,none⟩)),(9,.int .i64 i),(2,Go.Value.string (ByteArray.mk #[]))],[(10,some b1,FI pa oo cs.length dd),(11,oo.map (·.block),Row 5 cs jj)])) (fun (i,cs,(pa,(oo,dd,jj)))=>G9) (fun (i,cs,(pa,(oo,dd,jj)))=>-1≤i∧i<ps.length∧cs=Dn (Am (ps.drop (i+1).toNat))∧(pa=none∨pa=some ⟨b1,0,none⟩)∧A5 oo dd cs jj) (fun (i,cs,(pa,(oo,dd,jj)))=>(i+1).toNat) (((rs.length:Int) - 1,[],(none,(none,0,[])))) (⟨by omega,by omega,by rw [hrl,show ((ps.length:Int) - 1+1).toNat=ps.length by omega,uG];unfold Dn Am;rfl,.inl U,fN⟩) U ⟨U,U,U,U,I8⟩ ⟨U,U,I8⟩ fun ⟨i,cs,(pa,(oo,dd,jj))⟩=>fun hk=>?_;obtain ⟨hi0,hi1,hcs,hpa,hoo⟩:=hk;rcases (show i<0∨0≤i by omega) with hi | hi
   · have hie:i=-1:=uJ;subst hie;have hcs':cs=Dn (Am ps):=by rw [hcs];rfl
     refine aL 15 [0] ?_;refine cQ 10 U (sb G9 b1 pa oo dd cs jj (byB (xP n)) hoo (by rw [hcs',htxt];exact An (fun x hx=>by have:=Qb hx;omega)) (fun e=>RP n (by unfold byB at e;exact pU.1 e))) fun v3 G3 Ho3 hle3 hp=>?_;obtain ⟨rfl,rfl,rfl⟩:=hp;refine bA 4 [] ?_;refine cZ ?_;exact ⟨U,U⟩
   have hil:i<(rs.length:Int):=uJ;obtain ⟨p,hp⟩:∃ p,p=ps[i.toNat]?.getD 0:=⟨_,U⟩
   have hpi:ps[i.toNat]?=some p:=by rw [hp,aA uJ];rfl
   have hp9:p<10 ^ 9:=hP.lt p (iR hpi);have hpv:(rs[i.toNat]?.getD default).v=(p:Int):=by rw [hps,XH uJ,hp]
   refine aL 14 [1] ?_;refine bB 12 U T.zero287 fun b2=>?_;refine aN 6 [] ?_;refine aU U (jH (α:=A4) T.sl87 U U uK uJ) ?_;refine aU U (cS T.one166 U (gZ uK uJ 0 U U)) ?_;refine bY 10 [] ?_;refine rZ 12 (Row 287 (List.replicate 9 (⟨0⟩:U8)) []) U U ?_;refine mW (ι:=Nat×Int×Int×List U8) (fun (r,kk,x,ys)=>([(3,.slice o rs.length d),(8,.pointer (some ⟨b1,0,none⟩)),(9,.int .i64 i),(10,.pointer (some ⟨b2,0,none⟩)),(12,.int .i64 kk),(11,.int .u32 x),(2,Go.Value.string (ByteArray.mk #[]))],[(10,some b1,FI pa oo cs.length dd),(11,oo.map (·.block),Row 5 cs jj),(12,some b2,Row 287 ys [])])) (fun (r,kk,x,ys)=>r≤9∧kk=8 - (r:Int)∧x=((p / 10 ^ r:Nat):Int)∧ys=Fi r p) (fun (r,kk,x,ys)=>9 - r) ((0,8,(rs[i.toNat]?.getD default).v,List.replicate 9 (⟨0⟩:U8))) (⟨aS _,U,by rw [hpv,iK,Nat.div_one],(FD p).symm⟩) ⟨U,U,U,U,U,U,U,I8⟩ ⟨U,U,U,I8⟩ fun ⟨r,kk,x,ys⟩=>fun hk=>?_;obtain ⟨hr9,hkk,hxx,hys⟩:=hk;have hyl:ys.length=9:=by rw [hys];exact MB hr9
   rcases (show r=9∨r<9 by omega) with hre | hre
   · subst hre;have hkn:¬(0≤kk):=uJ;refine aL 15 [0] ?_;have hflat:uT ys=Tx.u8s (byB (Aq p)):=by rw [hys,FE];exact An (fun x hx=>No hx)
     have hcl:cs.length≤9*ps.length:=by
      rw [hcs,Cj];exact aP (Lo _) (fD _ (by rw [cE];exact Nat.sub_le _ _))
     have hcut:(cutL (Aq p)).length≤9:=by rw [←Jn p];exact IE _
     have hnl:=Jn p;refine aU U (BE (n:=9) (E:=5) (sz:=1) uO uO U) ?_;refine jB 56 U (show Value.slice (some ⟨b2,0,none⟩) 9 9=Value.slice (some ⟨b2,0,none⟩) ys.length 9 by rw [hyl]) ?_;refine aU U (tL (α:=U8) (ys:=ys) (E:=5) (byB (Aq p)) uO uO T.u9 U U (fP 12 U) hflat) ?_;by_cases hl:i=(rs.length:Int) - 1
     · refine aN 16 [1] ?_;refine dC U (rz _ _) ?_;refine aN 5 [] ?_;refine cQ 10 U (jm G9 b1 pa oo dd cs (Dn (cutL (Aq p))) jj _ hpa hoo (by rw [BL (fun x hx=>No hx)];exact An (fun x hx=>No (BM hx))) (by rw [Cj];omega)) fun v4 G4 Ho4 hle4 hp4=>?_;obtain ⟨a4,c4,j4,ho4,rfl,rfl⟩:=hp4;refine bA 8 [] ?_;refine eK ((i - 1,cs++Dn (cutL (Aq p)),(some ⟨b1,0,none⟩,(a4,c4,j4)))) ?_ ?_ U ⟨U,U,U,U,I8⟩ ⟨U,U,I8⟩
       · refine ⟨by omega,by omega,?_,.inr U,ho4⟩;rw [hcs,←Bt,show (i+1).toNat=ps.length by omega,uG,show (i - 1+1).toNat=i.toNat by omega,FG uJ hpi];unfold Am;rfl
       show (i - 1+1).toNat<(i+1).toNat;omega
     refine aN 18 [0] ?_;refine cQ 10 U (jm G9 b1 pa oo dd cs (Dn (Aq p)) jj _ hpa hoo (An (fun x hx=>No hx)) (by rw [Cj];omega)) fun v4 G4 Ho4 hle4 hp4=>?_;obtain ⟨a4,c4,j4,ho4,rfl,rfl⟩:=hp4;refine bA 8 [] ?_;refine eK ((i - 1,cs++Dn (Aq p),(some ⟨b1,0,none⟩,(a4,c4,j4)))) ?_ ?_ U ⟨U,U,U,U,I8⟩ ⟨U,U,I8⟩
     · refine ⟨by omega,by omega,?_,.inr U,ho4⟩;rw [hcs,←Bt,show (i+1).toNat=i.toNat+1 by omega,show (i - 1+1).toNat=i.toNat by omega,FH uJ hpi]
     show (i - 1+1).toNat<(i+1).toNat;omega
   have hkn:0≤kk:=uJ;have hx0:0≤x:=by rw [hxx];exact kP _
   have hx1:x≤4294967295:=by
    have hd:p / 10 ^ r≤p:=Nat.div_le_self _ _;generalize p / 10 ^ r=q at hd hxx;omega
   refine aL 16 [1] ?_;refine aU U (mG U U uJ) ?_;refine aU U (mB U U uJ) ?_;refine aU U (jM U T.u5 U) ?_;refine aU U (MA (n:=9) (E:=5) (sz:=1) uO uO U U uJ) ?_;refine Xb (α:=U8) (z:=⟨IntKind.u8.wrap (48+x % 10)⟩) 12 T.size5 U U U U uJ ?_;refine aN 4 [] ?_;refine aU U (sT U U uJ) ?_;refine bA 9 [] ?_;refine eK ((r+1,kk - 1,x / 10,ys.set kk.toNat ⟨IntKind.u8.wrap (48+x % 10)⟩)) ?_ ?_ U ⟨U,U,U,U,U,U,U,I8⟩ ⟨U,U,U,I8⟩
   · refine ⟨by omega,by omega,?_,?_⟩
     · rw [hxx,dM,←rP];omega
     rw [hys,hkk,show (8 - (r:Int)).toNat=8 - r by omega,←MC hre];have hw:IntKind.u8.wrap (48+x % 10)=((48+p / 10 ^ r % 10:Nat):Int):=by
      rw [hxx];generalize p / 10 ^ r=q;show (48+(q:Int) % 10) % 256=_;omega
     rw [hw]
   show 9 - (r+1)<9 - r;omega
 have hx0:0<(xl.length:Int):=uJ;have hle:=hP.len (show m≠0 by omega) hnL;have hrl:rs.length=ps.length:=by rw [hps,Qf]
 refine aL 15 [1] ?_;refine cQ 0 U (ii Gx xa xl.length xl 1000000000 hAx dlx uJ uJ uJ) fun v2 G2 Ho2 hle2 hp=>?_;obtain ⟨r2,q2,m2,rfl,⟨xb,xm,rfl,hA2,hL2,hT2,hV2,hN2⟩,hq2,hm2,hn2,rfl⟩:=hp;rw [hvx] at hq2;obtain ⟨em,eq⟩:=RU hq2 hm2 hn2;refine aN 13 [] ?_;refine eV (α:=A4) 10 [⟨m2⟩] U T.sl87 T.el166 U U U U U fun b1=>?_;refine fZ (α:=A4) 9 U T.sl87 T.el166 U U U Ei (fP 10 U) yH yH fun a1 c1 junk1 ho1=>?_;refine bA 8 [] ?_;refine eK ((rs++[⟨m2⟩],m / 10 ^ 9,G2,((xb,xm),(a1,c1,junk1)))) ?_ ?_ U ⟨U,U,U,I8⟩ ⟨U,I8⟩
 · refine ⟨⟨ps++[m % 10 ^ 9],by rw [MF,←hps,em],hP.step uJ,by rw [aI,gJ];omega⟩,bH hgx hle2,hA2,hL2,hT2,by rw [hV2,eq],by omega,ho1⟩
 show m / 10 ^ 9<m;omega
end
section
attribute [local irreducible] uM pb uZ Am wK D7 Fi Aq xP byB Dn Hn cutL
theorem XI {ds:List Nat} {k x:Nat} (hx:ds[k]?=some x) (h:x<10):((byB (ds.map (48+·)))[k]?.getD 0).toNat=48+x:=by
 unfold byB;rw [bJ,bJ,hx];show (UInt8.ofNat (48+x)).toNat=_;rw [nU,eS uJ]
theorem RV {x:Nat} (h:x<10):IntKind.i64.wrap (IntKind.i32.wrap (((48+x:Nat):Int) - 48))=((x:Nat):Int):=by
 have:x=0∨x=1∨x=2∨x=3∨x=4∨x=5∨x=6∨x=7∨x=8∨x=9:=uJ;rcases this with rfl | rfl | rfl | rfl | rfl | rfl | rfl | rfl | rfl | rfl <;> rfl
theorem Lp:∀ (w n L:Nat),n<2 ^ L→(wK 10 w n).length≤L
 | 0,n,L,_=>by unfold wK;exact aS _
 | w+1,n,L,h=>by
   by_cases hn:n=0
   · rw [hn,xL];exact aS _
   rw [Bj hn,bN];have hL:L≠0:=fun e=>by rw [e,iK] at h;omega
   obtain ⟨L,rfl⟩:∃ M,L=M+1:=⟨L-1,by omega⟩
   have:=Lp w (n / 10) L (by rw [dM] at h;omega);omega
theorem RW (n:Nat):∃ ds:List Nat,xP n=ds.map (48+·)∧(∀ d∈ds,d<10)∧(∀ L,n<2 ^ L→ds.length≤L+1):=by
 by_cases h:n=0
 · refine ⟨[0],by unfold xP;rw [aM h];rfl,fun d hd=>?_,fun L _=>Nat.le_add_left _ _⟩;rw [lN] at hd;omega
 refine ⟨(Dz n).reverse,by unfold xP;rw [aE h],fun d hd=>ID (uF.1 hd),fun L hL=>?_⟩;rw [nG];exact tP (Lp n n L hL)
theorem BO {ds pre:List Nat} {k x:Nat} (hx:ds[k]?=some x) (h:x<10):Dn (pre++(ds.take k).map (48+·))++[⟨IntKind.u8.wrap (48+(x:Int))⟩]=Dn (pre++(ds.take (k+1)).map (48+·)):=by
 have hw:IntKind.u8.wrap (48+(x:Int))=((48+x:Nat):Int):=by
  show (48+(x:Int)) % 256=_;omega
 rw [hw,fW,hx];show _=Dn (pre++(ds.take k++[x]).map (48+·));have e:pre++(ds.take k++[x]).map (48+·)=(pre++(ds.take k).map (48+·))++[48+x]:=by rw [iL,←cU];rfl
 rw [e,Bt (pre++(ds.take k).map (48+·))];congr 1;unfold Dn;rfl
theorem RX {pre ds:List Nat} (hp:∀ d∈pre,d<256) (hd:∀ d∈ds,d<10):∀ d∈pre++ds.map (48+·),d<256:=fun d h=>by
 rcases eL.1 h with h | h
 · exact hp d h
 obtain ⟨x,hx,rfl⟩:=cV.1 h;have:=hd x hx;omega
def sd (d:Nat):List Value:=[.int .i64 ((d:Nat):Int)]
theorem jn (G:A3) (b:Nat) (ds:List Nat) (hb:B7 G b [.string ⟨(byB (ds.map (48+·))).toArray⟩]) (hd:∀ d∈ds,d<10) :
 Zp Tryz.prog 155 [.pointer (some ⟨b,0,none⟩)] G sd ds:=by
 intro ι J inv stop ly i0 hi0 hY;refine Ml Tryz.func155 U Tryz.ntmps155 U fun w=>?_;refine VS 1000 ?_;refine aL 2 [] ?_;refine aU U (RN T.one9 U uK (by rfl)) ?_;refine BJ 0 U T.u9 U fun b1=>?_;refine bY 3 [] ?_;refine OV (ι:=Nat×ι) 1000 (fun (k,s)=>([(6,Go.Value.pointer (Option.some (Go.Addr.mk b1 0 Option.none))),(0,Go.Value.func (Go.Fn.yield ly) #[] #[])],[(0,some b1,.stringIter ⟨(byB (ds.map (48+·))).toArray⟩ k)])) (fun (k,s)=>J s) (fun (k,s)=>k≤ds.length∧inv k s) (fun (k,s)=>ds.length - k) ((0,i0)) (⟨aS _,hi0⟩) ⟨U,U,I8⟩ ⟨U,I8⟩ Zf fun ⟨k,s⟩=>fun hk=>?_;obtain ⟨hkl,hinv⟩:=hk;have hbl:(byB (ds.map (48+·))).length=ds.length:=by rw [XG,aW]
 rcases (show k<ds.length∨k=ds.length by omega) with hkd | hkd
 · obtain ⟨x,hx⟩:∃ x,ds[k]?=some x:=⟨_,aA hkd⟩
   have hx9:=hd x (iR hx);have hv:=XI hx hx9;have hlt:k<(byB (ds.map (48+·))).length:=uJ;have hlow:((byB (ds.map (48+·)))[k]?.getD 0).toNat<128:=uJ;refine aL 2 [] ?_;refine FB 0 U U U vG uK ?_;refine aN 18 [1] ?_;refine aU U (tK U U) ?_;refine aU U (jM U T.u3 U) ?_;refine jB 13 U (show _=Value.int .i64 (x:Int) by rw [hv,RV hx9]) ?_;refine KD (A:=[(0,Option.some b1,Go.Obj.stringIter (ByteArray.mk (List.toArray (Go.Proofs.YtngphgeghfdjbaaGreatDoor.byB (List.map (fun x=>48+x) ds)))) (k+1))]) 1000 U U U ⟨U,I8⟩ Zf U (hY k x s hx hinv) fun vy Gy Hy hly hp=>?_;obtain ⟨rfl,s',rfl,hp⟩:=hp;rcases hp with ⟨rfl,hinv'⟩ | ⟨rfl,hst⟩
   · refine bA 6 [0] ?_;refine EX ((k+1,s')) ?_ ?_ U ⟨U,U,I8⟩ ⟨U,I8⟩ Zf
     · exact ⟨by omega,hinv'⟩
     show ds.length - (k+1)<ds.length - k;omega
   refine bA 8 [1] ?_;refine In (.inr U) ?_;refine HJ (k:=1000) (.inr U) U Zf ⟨U,s',U,.inr hst⟩
 have hle:(byB (ds.map (48+·))).length≤k:=uJ;refine aL 2 [] ?_;refine aU U (FC 0 U U vG) ?_;refine bA 9 [0] ?_;refine In (.inl U) ?_;refine HJ (k:=1000) (.inr U) U Zf ⟨U,s,U,.inl ?_⟩;rw [←hkd];exact hinv
theorem jo (G:A3) (a:Option Addr) (ca:Nat) (la:List A4) (ha9:Arr G a la) (hd9:A6 la) (hn9:la.length≤1073741824) (hc9:la.length≤ca) :
 Does Tryz.prog 104 [.slice a la.length ca] G [] (fun v G' Ho=>∃ b:Nat,v=.func (.func 155) #[] #[.pointer (some ⟨b,0,none⟩)]∧B7 G' b [.string ⟨(byB (xP (uM la).toNat)).toArray⟩]∧Ho=[]):=by
 refine bU Tryz.func104 U Tryz.ntmps104 U fun w=>?_;refine aL 8 [] ?_;refine cQ 0 U (sc _ _ _ _ ha9 hd9 hn9 hc9) fun v1 G1 Ho1 hle1 hp=>?_;obtain ⟨rfl,rfl⟩:=hp;replace ha9:=ha9.up hle1;refine bB 0 U T.zero9 fun b1=>?_;refine aN 5 [0] ?_;refine aU U (jS U U) ?_;refine bA 4 [] ?_;refine sX 0 U fun Ga hga hba=>?_;refine cP (.inr U) (Ho:=[]) U (.tmp U) I8 ?_;exact ⟨_,U,B7.of hba,U⟩
theorem c50 (G:A3) (x:IV) (z:Int) (hx:B9 G x z) (hn:x.n≤1073741824) :
 Does Tryz.prog 50 [.agg (A2.enc x).toArray] G [] (fun v G' Ho=>v=.string ⟨(Te z).toArray⟩∧Ho=[]):=by
 obtain ⟨xg,xa,xn,xc⟩:=x;obtain ⟨l,hl,hc9,ha9,hb⟩:=hx;replace hl:l.length=xn:=hl;subst hl;have hd9:=hb.digs;have hn9:l.length≤1073741824:=hn;replace hc9:l.length≤xc:=hc9;replace ha9:Arr G xa l:=ha9;refine Ml Tryz.func50 U Tryz.ntmps50 U fun w=>?_;refine gA 9 (Row 5 ([]:List U8) []) ?_;have hzn:(uM l).toNat=z.natAbs:=by have:=hb.abs;omega
 have hv0:=vD hd9;obtain ⟨ds,hds,hd10,hdl⟩:=RW z.natAbs;replace hdl:ds.length≤34359738369:=by
  have h1:=wL hd9;rw [hb.abs,pw2] at h1;have h2:=hdl _ (oN.1 h1);omega
 cases xg
 · have hz:¬z<0:=by
    have:=hb.val;rw [aE (show ¬(false=true) by decide)] at this;omega
   refine aL 2 [] ?_;refine gU 10 U U U fun b1=>?_;refine aN 5 [] ?_;refine bB 11 U T.zero177 fun b2=>?_;refine aN 17 [10,0,10] ?_;refine cQ 12 U (jo _ _ _ _ ha9 hd9 hn9 hc9) fun v1 G1 Ho1 hle1 hp=>?_;obtain ⟨bf,rfl,hbf,rfl⟩:=hp;replace ha9:=ha9.up hle1;refine bY 3 [] ?_;rw [hzn,hds] at hbf;refine Wc.rangeFunc (ι:=List U8×(Option Addr×Nat×List Value)) 900 901 (fun (cs,(o,d,j))=>[(11,some b2,.cells #[.slice o cs.length d] 177),(9,o.map (·.block),Row 5 cs j),(10,Option.some b1,Go.Obj.cells (List.toArray (Go.Sl.A2.enc (Go.Sl.IV.mk Bool.false xa (List.length l) xc))) 89)]) (fun k (cs,(o,d,j))=>cs=Dn ([]++(ds.take k).map (48+·))∧A5 o d cs j) (fun c (cs,(o,d,j))=>False) (([],(none,0,[]))) U T.fn155 (fun _=>rfl) U (jn _ bf ds hbf hd10) (⟨by rw [bX];unfold Dn;rfl,fN⟩) (Xh ⟨U,U,U,I8⟩) ⟨U,fun _=>rfl⟩ (fun k x ⟨cs,(o,d,j)⟩ l dd q w0 hx hi=>?_) (fun ⟨cs,(o,d,j)⟩ dd hi=>?_) fun ⟨cs,(o,d,j)⟩ dd c hi=>?_
   · obtain ⟨hcs,ho⟩:=hi;have hx9:=hd10 x (iR hx);have hkl:k<ds.length:=(aR.1 hx).1;have hcl:cs.length≤1+ds.length:=by
      rw [hcs,Cj,aI,aW];have h1:([]:List Nat).length≤1:=uR;have h2:(ds.take k).length≤ds.length:=by rw [bI];exact Nat.min_le_right _ _
      omega
     refine cJ 3 [] ?_;refine Zq 900 U ?_;refine aL 5 [11] ?_;refine aU U (jM U T.u5 U) ?_;refine eV (α:=U8) 902 [⟨Go.IntKind.wrap Go.IntKind.u8 (48+(↑x:Int))⟩] U T.sl177 T.el5 U U U U U fun b3=>?_;refine fZ (α:=U8) 9 U T.sl177 T.el5 U U U Ei (fP 902 U) yH yH fun a1 c1 junk1 ho1=>?_;refine bA 3 [11] ?_;refine Mm none (.inl ⟨U,U⟩) 900 U ⟨U,((cs++[⟨IntKind.u8.wrap (48+(x:Int))⟩],(a1,c1,junk1)),none),U,.inl ⟨U,U,?_⟩⟩ (Xh ⟨U,U,U,U,U,I8⟩);exact ⟨by rw [hcs];exact BO hx hx9,ho1⟩
   · obtain ⟨hcs,ho⟩:=hi;rw [gX] at hcs;refine dX 9 U ho fun G9 hle9 hA=>?_;refine rH 5 [11] ?_;refine aU U (tL (α:=U8) (E:=5) (byB ([]++ds.map (48+·))) uO uO T.u9 U U (mX hA) (by rw [hcs];exact An (RX uR hd10))) ?_;refine bA 4 [] ?_;refine Ow (.inr U) 901 U ?_;refine In (.inr U) ?_;refine Ar.base (cP (.inr U) (Ho:=[]) U (.tmp U) I8 ?_);refine ⟨?_,U⟩;unfold Te Hm;rw [aE hz,←hds]
   exact hi.elim
 have hz:z<0:=by
  have h1:=hb.val;rw [aM rfl] at h1;have h2:l≠[]:=fun e=>by have:=hb.sign e;cases this
  have h3:=(E9.pos (Mq hb.top) hd9).1 (nH.2 h2);omega
 refine aL 2 [] ?_;refine gU 10 U U U fun b1=>?_;refine aN 5 [] ?_;refine bB 11 U T.zero177 fun b2=>?_;refine aN 12 [10,1,11] ?_;refine eV (α:=U8) 12 [⟨45⟩] U T.sl177 T.el5 U U U U U fun b3=>?_;refine fZ (α:=U8) 9 U T.sl177 T.el5 U U U Ei (fP 12 U) yH yH fun a1 c1 junk1 ho1=>?_;refine aN 8 [11,10] ?_;refine cQ 13 U (jo _ _ _ _ ha9 hd9 hn9 hc9) fun v1 G1 Ho1 hle1 hp=>?_;obtain ⟨bf,rfl,hbf,rfl⟩:=hp;replace ha9:=ha9.up hle1;refine bY 3 [] ?_;rw [hzn,hds] at hbf;refine Wc.rangeFunc (ι:=List U8×(Option Addr×Nat×List Value)) 900 901 (fun (cs,(o,d,j))=>[(11,some b2,.cells #[.slice o cs.length d] 177),(9,o.map (·.block),Row 5 cs j),(12,Option.some b3,Go.Sl.Row (α:=Go.Proofs.YtngphgeghfdjbaaGreatDoor.U8) 5 ([Go.Proofs.YtngphgeghfdjbaaGreatDoor.U8.mk 45]) ([])),(10,Option.some b1,Go.Obj.cells (List.toArray (Go.Sl.A2.enc (Go.Sl.IV.mk Bool.true xa (List.length l) xc))) 89)]) (fun k (cs,(o,d,j))=>cs=Dn ([45]++(ds.take k).map (48+·))∧A5 o d cs j) (fun c (cs,(o,d,j))=>False) (([⟨45⟩],(a1,c1,junk1))) U T.fn155 (fun _=>rfl) U (jn _ bf ds hbf hd10) (⟨by rw [bX];unfold Dn;rfl,ho1⟩) (Xh ⟨U,U,U,U,I8⟩) ⟨U,fun _=>rfl⟩ (fun k x ⟨cs,(o,d,j)⟩ l dd q w0 hx hi=>?_) (fun ⟨cs,(o,d,j)⟩ dd hi=>?_) fun ⟨cs,(o,d,j)⟩ dd c hi=>?_
 · obtain ⟨hcs,ho⟩:=hi;have hx9:=hd10 x (iR hx);have hkl:k<ds.length:=(aR.1 hx).1;have hcl:cs.length≤1+ds.length:=by
    rw [hcs,Cj,aI,aW];have h1:([45]:List Nat).length≤1:=uR;have h2:(ds.take k).length≤ds.length:=by rw [bI];exact Nat.min_le_right _ _
    omega
   refine cJ 3 [] ?_;refine Zq 900 U ?_;refine aL 5 [11] ?_;refine aU U (jM U T.u5 U) ?_;refine eV (α:=U8) 902 [⟨Go.IntKind.wrap Go.IntKind.u8 (48+(↑x:Int))⟩] U T.sl177 T.el5 U U U U U fun b4=>?_;refine fZ (α:=U8) 9 U T.sl177 T.el5 U U U Ei (fP 902 U) yH yH fun a2 c2 junk2 ho2=>?_;refine bA 3 [11] ?_;refine Mm none (.inl ⟨U,U⟩) 900 U ⟨U,((cs++[⟨IntKind.u8.wrap (48+(x:Int))⟩],(a2,c2,junk2)),none),U,.inl ⟨U,U,?_⟩⟩ (Xh ⟨U,U,U,U,U,U,I8⟩);exact ⟨by rw [hcs];exact BO hx hx9,ho2⟩
 · obtain ⟨hcs,ho⟩:=hi;rw [gX] at hcs;refine dX 9 U ho fun G9 hle9 hA=>?_;refine rH 5 [11] ?_;refine aU U (tL (α:=U8) (E:=5) (byB ([45]++ds.map (48+·))) uO uO T.u9 U U (mX hA) (by rw [hcs];exact An (RX uR hd10))) ?_;refine bA 4 [] ?_;refine Ow (.inr U) 901 U ?_;refine In (.inr U) ?_;refine Ar.base (cP (.inr U) (Ho:=[]) U (.tmp U) I8 ?_);refine ⟨?_,U⟩;unfold Te Hm;rw [aM hz,←hds]
 exact hi.elim
end
section
attribute [local irreducible] uS pw uZ Am wK D7 Fi Aq xP byB Dn Hn cutL Dz Hq
theorem jq (n:Nat):pw n=((2 ^ (16*n):Nat):Int):=by
 unfold pw;rw [sD]
theorem MG {l:List A4} {r:Int} (hd:B2 l) (ht:E8 l) (hv:uS l=r) (h:r<10):(l=[]∧r=0)∨∃ d,l=[d]∧d.v=r:=by
 by_cases h0:l=[]
 · left;subst h0;exact ⟨U,by rw [←hv,xO]⟩
 right;have h1:=Xl hd ht h0;have h2:l.length=1:=by
  have h3:=nH.2 h0;rcases (show l.length=1∨2≤l.length by omega) with h4 | h4
  · exact h4
  exfalso;obtain ⟨k,hk⟩:∃ k,l.length - 1=k+1:=⟨l.length - 2,by omega⟩
  rw [hk,jq] at h1;have h5:(2 ^ (16*(k+1)):Nat) ≥ 2 ^ 16:=eR uR uJ;have h6:(2 ^ 16:Nat)=65536:=rfl;omega
 obtain ⟨d,rfl⟩:=List.length_eq_one_iff.1 h2;exact ⟨d,U,by rw [←hv,Bo]⟩
theorem BP {ds:List Nat} {x:Nat} {r:Int} (hr:r=((x:Nat):Int)) (h:x<10):Dn (ds.map (48+·))++[⟨IntKind.u8.wrap (48+r)⟩]=Dn ((ds++[x]).map (48+·)):=by
 have hw:IntKind.u8.wrap (48+r)=((48+x:Nat):Int):=by
  rw [hr];show (48+(x:Int)) % 256=_;omega
 rw [hw,iL,Bt];unfold Dn;rfl
theorem IF {cs:List U8} {L:List Nat} (h:cs=Dn L):cs.reverse=Dn L.reverse:=by
 subst h;unfold Dn;rw [List.map_reverse]
theorem BQ {n:Nat} {ds:List Nat} (h:Dz n=ds) (hne:ds≠[]):(ds.map (48+·)).reverse=xP n:=by
 have h0:n≠0:=fun e=>hne (by rw [←h,e,Lk]);unfold xP;rw [aE h0,h,List.map_reverse]
theorem RY {z:Int} {n:Nat} {ds:List Nat} (hz:¬z<0) (hn:n=z.natAbs) (h:Dz n=ds) (hne:ds≠[]):(ds.map (48+·)).reverse=Hm z:=by
 unfold Hm;rw [aE hz,BQ h hne,hn];rfl
theorem RZ {z:Int} {n:Nat} {ds:List Nat} (hz:z<0) (hn:n=z.natAbs) (h:Dz n=ds) (hne:ds≠[]):(ds.map (48+·)++[45]).reverse=Hm z:=by
 unfold Hm;rw [aM hz,pS,BQ h hne,hn];rfl
theorem c51 (G:A3) (x:IV) (z:Int) (hx:F4 G x z) (hn:x.n≤536870912) :
 Does Tryz.prog 51 [.agg (A2.enc x).toArray] G [] (fun v G' Ho=>v=.string ⟨(Te z).toArray⟩∧Ho=[]):=by
 obtain ⟨xg,xa0,xn,xc0⟩:=x;obtain ⟨l,hl,hc9,ha9,hb⟩:=hx;replace hl:l.length=xn:=hl;subst hl;have hd9:=hb.digs;have hn9:l.length≤536870912:=hn;replace hc9:l.length≤xc0:=hc9;replace ha9:Arr G xa0 l:=ha9;obtain ⟨n,hzn⟩:∃ n,n=z.natAbs:=⟨_,U⟩
 have hvn:uS l=(n:Int):=by rw [hb.abs,hzn]
 have hdl:(Dz n).length≤8589934592:=by
  have h1:=Dr hd9;rw [hvn,jq] at h1;have h2:=Lp n n _ (oN.1 h1);unfold Dz;omega
 refine bU Tryz.func51 U Tryz.ntmps51 U fun w=>?_;refine gA 9 (Row 5 ([]:List U8) []) ?_;refine aL 2 [] ?_;refine gU 10 U U U fun b1=>?_;refine bY 17 [10] ?_;refine fX (ι:=List U8×Nat×A3×((Option Addr×List A4×Nat)×(Option Addr×Nat×List Value))) (fun (cs,m,Gx,((xa,xl,xc),(o,d,j)))=>([(3,.slice o cs.length d),(4,.slice xa xl.length xc),(2,Go.Value.string (ByteArray.mk #[])),(1,Go.Value.pointer (Option.some (Go.Addr.mk b1 0 Option.none)))],[(9,o.map (·.block),Row 5 cs j),(10,Option.some b1,Go.Obj.cells (List.toArray (Go.Sl.A2.enc (Go.Sl.IV.mk xg xa0 (List.length l) xc0))) 93)])) (fun (cs,m,Gx,((xa,xl,xc),(o,d,j)))=>Gx) (fun (cs,m,Gx,((xa,xl,xc),(o,d,j)))=>(∃ ds,cs=Dn (ds.map (48+·))∧Dz n=ds++Dz m)∧G.le Gx∧Arr Gx xa xl∧B2 xl∧E8 xl∧uS xl=(m:Int)∧xl.length≤xc∧xl.length≤l.length∧A5 o d cs j) (fun (cs,m,Gx,((xa,xl,xc),(o,d,j)))=>m) (([],n,G,((xa0,l,xc0),(none,0,[])))) (⟨⟨[],by unfold Dn;rfl,U⟩,cC _,ha9,hd9,hb.top,hvn,hc9,aG _,fN⟩) U ⟨U,U,U,U,I8⟩ ⟨U,U,I8⟩ fun ⟨cs,m,Gx,((xa,xl,xc),(o,d,j))⟩=>fun hk=>?_;obtain ⟨⟨ds,hcs,hds⟩,hgx,hax,hdx,htx,hvx,hcx,hlx,hox⟩:=hk;have hcl:cs.length≤8589934592:=by
  have h1:=congrArg List.length hds;rw [aI] at h1;rw [hcs,Cj,aW];omega
 rcases dD m with hm | hm
 · subst hm;have hx0:¬(0<(xl.length:Int)):=fun h=>by
    have:=Xm hdx htx (nH.1 uJ);omega
   by_cases hr:(cs.length:Int)=0
   · have hds0:ds=[]:=bS (by
      have h1:=congrArg List.length hcs;rw [Cj,aW] at h1;omega)
     rw [hds0,Lk] at hds;have hn0:n=0:=by
      rcases dD n with h | h
      · exact h
      exact absurd hds (BB uJ)
     have hz0:z=0:=uJ;subst hz0;refine cJ 30 [0,1] ?_;refine cZ ?_;exact ⟨by unfold Te Hm xP byB;rfl,U⟩
   rw [Lk,fH] at hds;have hne:ds≠[]:=fun e=>hr (by rw [hcs,e];unfold Dn;rfl);cases xg
   · have hz:¬z<0:=by
      have h1:=hb.val;rw [aE (show ¬(false=true) by decide)] at h1;have:=wO hd9;omega
     refine dN 42 [0,0,10,0] ?_;refine mW (ι:=Nat×List U8×List Value) (fun (i,ys,jj)=>([(3,.slice o ys.length d),(8,.int .i64 (i:Int)),(2,Go.Value.string (ByteArray.mk #[]))],[(9,o.map (·.block),Row 5 ys jj),(10,Option.some b1,Go.Obj.cells (List.toArray (Go.Sl.A2.enc (Go.Sl.IV.mk Bool.false xa0 (List.length l) xc0))) 93)])) (fun (i,ys,jj)=>ys=Hq cs i∧i≤cs.length / 2∧A5 o d ys jj) (fun (i,ys,jj)=>cs.length / 2 - i) ((0,cs,j)) (⟨(Vd _).symm,aS _,hox⟩) ⟨U,U,U,I8⟩ ⟨U,U,I8⟩ fun ⟨i,ys,jj⟩=>fun hk=>?_;obtain ⟨hys,hi2,hoy⟩:=hk;have hyl:ys.length=cs.length:=by rw [hys,Bu]
     have hyb:ys.length≤8589934593:=by
      rw [hyl];omega
     rcases (show i<cs.length / 2∨cs.length / 2≤i by omega) with hil | hil
     · have hlt:(i:Int)<(ys.length:Int) / 2:=uJ;refine aL 6 [] ?_;refine aU U (nB U U uJ) ?_;refine bY 8 [1] ?_;refine gV [10,9] [(9,23),(10,23),(9,21),(10,21)] T.mixed U ?_;refine bO 0 [] [] ?_;refine bO 1 [] [] ?_;refine bO 2 [] [] ?_;refine bO 3 [] [] ?_;refine bO 4 [] [] ?_;refine bO 5 [] [] ?_;refine bO 6 [] [] ?_;refine bO 7 [] [] ?_;refine bO 8 [] [] ?_;refine bO 9 [] [] ?_;refine bO 10 [] [] ?_;refine bO 11 [] [] ?_;refine bO 12 [] [] ?_;refine bO 13 [] [] ?_;refine eP 14 [] U (dJ (α:=U8) T.sl177 U U uK uJ) ?_;refine eP 15 [9] U (nI 9 0 T.one5 U U uK uJ U U) ?_;refine bO 16 [] [] ?_;refine bO 17 [] [] ?_;refine eP 18 [] U (dJ (α:=U8) T.sl177 U U uK uJ) ?_;refine eP 19 [9] U (nI 9 0 T.one5 U U uK uJ U U) ?_;refine eP 20 [] U (dJ (α:=U8) T.sl177 U U uK uJ) ?_;refine fC 21 ?_;refine fL (z:=⟨_⟩) 9 T.size5 U U U uK uJ U fun ho1=>?_;refine dG ?_;refine eP 22 [] U (dJ (α:=U8) T.sl177 U U uK uJ) ?_;refine rB 23 I8 Cl uO U ?_;refine fL (α:=U8) (z:=⟨(ys[(i:Int).toNat]?.getD default).v⟩) 9 T.size5 U U U ho1 (by rw [aJ];omega) U fun hoY=>?_;refine dG ?_;refine mU uO I8 Cl ?_;refine iN 7 [] ?_;refine dH 3 U (show Value.slice o ys.length d=Value.slice o ((ys.set (i:Int).toNat (ys[((ys.length:Int) - 1 - (i:Int)).toNat]?.getD default)).set ((ys.length:Int) - 1 - (i:Int)).toNat (ys[(i:Int).toNat]?.getD default)).length d by rw [aJ,aJ]) ?_;refine eK ((i+1,(ys.set (i:Int).toNat (ys[((ys.length:Int) - 1 - (i:Int)).toNat]?.getD default)).set ((ys.length:Int) - 1 - (i:Int)).toNat (ys[(i:Int).toNat]?.getD default),jj)) ?_ ?_ U ⟨U,U,U,I8⟩ ⟨U,U,I8⟩
       · refine ⟨?_,by omega,hoY⟩;rw [show ((ys.length:Int) - 1 - (i:Int)).toNat=cs.length - 1 - i by omega,show (i:Int).toNat=i from aH i,hys];exact Vf hil
       show cs.length / 2 - (i+1)<cs.length / 2 - i;omega
     have hlt:¬((i:Int)<(ys.length:Int) / 2):=uJ;have hyr:ys=Dn (ds.map (48+·)).reverse:=by rw [hys,Ve hil hi2];exact IF (by exact hcs)
     refine aL 6 [] ?_;refine aU U (nB U U uJ) ?_;refine aN 12 [0] ?_;refine eC 9 U hoy fun G9 hle9 hA=>?_;refine aU U (tL (α:=U8) (E:=5) (byB (Hm z)) uO uO T.u9 U U (mX hA) (by rw [hyr,RY hz hzn hds hne];exact An (fun x hx=>by have:=Nn hx;omega))) ?_;refine bA 4 [] ?_;refine cZ ?_;exact ⟨U,U⟩
   have hz:z<0:=by
    have h1:=hb.val;rw [aM rfl] at h1;have h2:l≠[]:=fun e=>by have:=hb.sign e;cases this
    have h3:=Xm hd9 hb.top h2;omega
   refine aL 35 [0,0,10,1] ?_;refine eV (α:=U8) 11 [⟨45⟩] U T.sl177 T.el5 U U U U U fun b2=>?_;refine fZ (α:=U8) 9 U T.sl177 T.el5 U U U Ei (fP 11 U) yH yH fun a1 c1 junk1 ho1=>?_;refine bY 10 [] ?_;refine mW (ι:=Nat×List U8×List Value) (fun (i,ys,jj)=>([(3,.slice a1 ys.length c1),(8,.int .i64 (i:Int)),(2,Go.Value.string (ByteArray.mk #[]))],[(9,a1.map (·.block),Row 5 ys jj),(11,Option.some b2,Go.Sl.Row (α:=Go.Proofs.YtngphgeghfdjbaaGreatDoor.U8) 5 ([Go.Proofs.YtngphgeghfdjbaaGreatDoor.U8.mk 45]) ([])),(10,Option.some b1,Go.Obj.cells (List.toArray (Go.Sl.A2.enc (Go.Sl.IV.mk Bool.true xa0 (List.length l) xc0))) 93)])) (fun (i,ys,jj)=>ys=Hq (cs++[(⟨45⟩:U8)]) i∧i≤(cs++[(⟨45⟩:U8)]).length / 2∧A5 a1 c1 ys jj) (fun (i,ys,jj)=>(cs++[(⟨45⟩:U8)]).length / 2 - i) ((0,(cs++[(⟨45⟩:U8)]),junk1)) (⟨(Vd _).symm,aS _,ho1⟩) ⟨U,U,U,I8⟩ ⟨U,U,U,I8⟩ fun ⟨i,ys,jj⟩=>fun hk=>?_;obtain ⟨hys,hi2,hoy⟩:=hk;have hyl:ys.length=(cs++[(⟨45⟩:U8)]).length:=by rw [hys,Bu]
   have hyb:ys.length≤8589934593:=by
    rw [hyl,aI,gJ];omega
   rcases (show i<(cs++[(⟨45⟩:U8)]).length / 2∨(cs++[(⟨45⟩:U8)]).length / 2≤i by omega) with hil | hil
   · have hlt:(i:Int)<(ys.length:Int) / 2:=uJ;refine aL 6 [] ?_;refine aU U (nB U U uJ) ?_;refine bY 8 [1] ?_;refine gV [10,11,9] [(9,23),(11,23),(10,23),(9,21),(11,21),(10,21)] T.mixed U ?_;refine bO 0 [] [] ?_;refine bO 1 [] [] ?_;refine bO 2 [] [] ?_;refine bO 3 [] [] ?_;refine bO 4 [] [] ?_;refine bO 5 [] [] ?_;refine bO 6 [] [] ?_;refine bO 7 [] [] ?_;refine bO 8 [] [] ?_;refine bO 9 [] [] ?_;refine bO 10 [] [] ?_;refine bO 11 [] [] ?_;refine bO 12 [] [] ?_;refine bO 13 [] [] ?_;refine eP 14 [] U (dJ (α:=U8) T.sl177 U U uK uJ) ?_;refine eP 15 [9] U (nI 9 0 T.one5 U U uK uJ U U) ?_;refine bO 16 [] [] ?_;refine bO 17 [] [] ?_;refine eP 18 [] U (dJ (α:=U8) T.sl177 U U uK uJ) ?_;refine eP 19 [9] U (nI 9 0 T.one5 U U uK uJ U U) ?_;refine eP 20 [] U (dJ (α:=U8) T.sl177 U U uK uJ) ?_;refine fC 21 ?_;refine fL (z:=⟨_⟩) 9 T.size5 U U U uK uJ U fun ho2=>?_;refine dG ?_;refine eP 22 [] U (dJ (α:=U8) T.sl177 U U uK uJ) ?_;refine rB 23 I8 Cl uO U ?_;refine fL (α:=U8) (z:=⟨(ys[(i:Int).toNat]?.getD default).v⟩) 9 T.size5 U U U ho2 (by rw [aJ];omega) U fun hoY=>?_;refine dG ?_;refine mU uO I8 Cl ?_;refine iN 7 [] ?_;refine dH 3 U (show Value.slice a1 ys.length c1=Value.slice a1 ((ys.set (i:Int).toNat (ys[((ys.length:Int) - 1 - (i:Int)).toNat]?.getD default)).set ((ys.length:Int) - 1 - (i:Int)).toNat (ys[(i:Int).toNat]?.getD default)).length c1 by rw [aJ,aJ]) ?_;refine eK ((i+1,(ys.set (i:Int).toNat (ys[((ys.length:Int) - 1 - (i:Int)).toNat]?.getD default)).set ((ys.length:Int) - 1 - (i:Int)).toNat (ys[(i:Int).toNat]?.getD default),jj)) ?_ ?_ U ⟨U,U,U,I8⟩ ⟨U,U,U,I8⟩
     · refine ⟨?_,by omega,hoY⟩;rw [show ((ys.length:Int) - 1 - (i:Int)).toNat=(cs++[(⟨45⟩:U8)]).length - 1 - i by omega,show (i:Int).toNat=i from aH i,hys];exact Vf hil
     show (cs++[(⟨45⟩:U8)]).length / 2 - (i+1)<(cs++[(⟨45⟩:U8)]).length / 2 - i;omega
   have hlt:¬((i:Int)<(ys.length:Int) / 2):=uJ;have hyr:ys=Dn (ds.map (48+·)++[45]).reverse:=by rw [hys,Ve hil hi2];exact IF (by rw [hcs,Bt];unfold Dn;rfl)
   refine aL 6 [] ?_;refine aU U (nB U U uJ) ?_;refine aN 12 [0] ?_;refine eC 9 U hoy fun G9 hle9 hA=>?_;refine aU U (tL (α:=U8) (E:=5) (byB (Hm z)) uO uO T.u9 U U (mX hA) (by rw [hyr,RZ hz hzn hds hne];exact An (fun x hx=>by have:=Nn hx;omega))) ?_;refine bA 4 [] ?_;refine cZ ?_;exact ⟨U,U⟩
 have hx0:0<(xl.length:Int):=by
  rcases xl with _ | ⟨d0,xl⟩
  · rw [xO] at hvx;omega
  rw [bN];omega
 refine aL 15 [1] ?_;refine eV (α:=A4) 11 [⟨10⟩] U T.sl87 T.el166 U U U U U fun b2=>?_;refine eC 11 U (kW Oe) fun G8 hle8 hT8=>?_;refine cQ 0 U (iv G8 xa _ xc 1 xl [⟨10⟩] (hax.up hle8) hT8 hdx (fun d hd=>by rw [lN] at hd;subst hd;decide) (.inr uR) uJ U) fun v2 G2 Ho2 hle2 hp=>?_;obtain ⟨⟨qa,ra,qc,rc,lq,lr,rfl,hq1,hq2,hq3,hq4,hq5,hq6,hq7,hq8,hq9,hq10,hq11⟩,rfl⟩:=hp;rw [Bo,hvx] at hq7;rw [Bo] at hq8;replace hq7:(m:Int)=uS lq*10+uS lr:=hq7;replace hq8:uS lr<10:=hq8;have hr0:=wO hq5;rcases MG hq5 hq6 U hq8 with ⟨rfl,hrv⟩ | ⟨d1,rfl,hrv⟩
 · have hc0:¬(0<(([]:List A4).length:Int)):=uR;refine aN 27 [0] ?_;refine aU U (mB U U uJ) ?_;refine aU U (jM U T.u5 U) ?_;refine eV (α:=U8) 12 [⟨Go.IntKind.wrap Go.IntKind.u8 (48+0)⟩] U T.sl177 T.el5 U U U U U fun b3=>?_;refine fZ (α:=U8) 9 U T.sl177 T.el5 U U U Ei (fP 12 U) yH yH fun a1 c1 junk1 ho1=>?_;refine bA 8 [] ?_;refine eK ((cs++[⟨IntKind.u8.wrap (48+0)⟩],m / 10,G2,((qa,lq,qc),(a1,c1,junk1)))) ?_ ?_ U ⟨U,U,U,U,I8⟩ ⟨U,U,I8⟩
   · refine ⟨⟨ds++[m % 10],by rw [hcs];exact BP (show (0:Int)=((m % 10:Nat):Int) by omega) (iX _ uR),by rw [hds,Uz (show m≠0 by omega),cU];rfl⟩,bH hgx (bH hle8 hle2),hq1,hq3,hq4,by omega,hq9,by omega,ho1⟩
   show m / 10<m;omega
 have hc0:0<(([d1]:List A4).length:Int):=by show (0:Int)<((1:Nat):Int);decide
 have hb1:0≤(([d1]:List A4)[(0:Int).toNat]?.getD default).v∧(([d1]:List A4)[(0:Int).toNat]?.getD default).v<10:=by
  show 0≤d1.v∧d1.v<10;omega
 refine aN 23 [1] ?_;refine aU U (jH (α:=A4) T.sl87 U U uK uJ) ?_;refine aU U (cS T.one166 U (gZ uK uJ 0 U U)) ?_;refine aN 7 [] ?_;refine aU U (mB U U uJ) ?_;refine aU U (jM U T.u5 U) ?_;refine eV (α:=U8) 12 [⟨Go.IntKind.wrap Go.IntKind.u8 (48+Go.Sl.A4.v (Option.getD [d1][Int.toNat 0]? Inhabited.default))⟩] U T.sl177 T.el5 U U U U U fun b3=>?_;refine fZ (α:=U8) 9 U T.sl177 T.el5 U U U Ei (fP 12 U) yH yH fun a1 c1 junk1 ho1=>?_;refine bA 8 [] ?_;refine eK ((cs++[⟨IntKind.u8.wrap (48+d1.v)⟩],m / 10,G2,((qa,lq,qc),(a1,c1,junk1)))) ?_ ?_ U ⟨U,U,U,U,I8⟩ ⟨U,U,I8⟩
 · refine ⟨⟨ds++[m % 10],by rw [hcs];exact BP (show d1.v=((m % 10:Nat):Int) by omega) (iX _ uR),by rw [hds,Uz (show m≠0 by omega),cU];rfl⟩,bH hgx (bH hle8 hle2),hq1,hq3,hq4,by omega,hq9,by omega,ho1⟩
 show m / 10<m;omega
end
section
attribute [local irreducible] uM uS pw pb uZ Te
theorem c73 (G:A3) (x y:IV) (zx zy:Int) (hx9:B9 G x zx) (hy9:F4 G y zy) (hx5:x.n≤1073741824) (hy5:y.n≤536870912) :
 Does Tryz.prog 73 [.agg (A2.enc x).toArray,.agg (A2.enc y).toArray] G [] (fun v G' Ho=>v=.bool (decide (zx=zy))∧Ho=[]):=by
 refine bU Tryz.func73 U Tryz.ntmps73 U fun w=>?_;refine aL 2 [] ?_;refine gU 0 U U U fun b1=>?_;refine gU 1 U U U fun b2=>?_;refine bY 4 [] ?_;refine gV [0,1] [] T.mixed U ?_;refine bO 0 [0] [0] ?_;refine bO 2 [1] [1] ?_;refine fC 1 ?_;refine cQ 2 U (c50 _ _ _ hx9 hx5) fun v1 G1 Ho1 hle1 hp=>?_;obtain ⟨rfl,rfl⟩:=hp;replace hx9:=hx9.up hle1;replace hy9:=hy9.up hle1;refine dG ?_;refine fC 3 ?_;refine cQ 2 U (c51 _ _ _ hy9 hy5) fun v2 G2 Ho2 hle2 hp=>?_;obtain ⟨rfl,rfl⟩:=hp;replace hx9:=hx9.up hle2;replace hy9:=hy9.up hle2;refine dG ?_;refine eP 4 [] U (Ll U U) ?_;refine bO 5 [] [] ?_;refine eI ?_;refine iN 2 [] ?_;refine cZ ?_;exact ⟨by rw [gT.2 RR],U⟩
theorem c72 (G:A3) (a b:Option Addr) (ca cb:Nat) (la lb:List IV) (za zb:List Int) (ha:Arr G a la) (hb:Arr G b lb) (hA:A8 G la za) (hB:D1 G lb zb) (h1:la.length≤1048576) (m k:Nat) (hm:m≤1073741824) (hk2:k≤536870912) (ba:Below m za) (bb:Go.Sl.Below k zb) :
 Does Tryz.prog 72 [.slice a la.length ca,.slice b lb.length cb,.func (.func 73) #[] #[]] G [] (fun v G' Ho=>v=.bool (decide (za=zb))∧Ho=[]):=by
 have e1:=hA.1;have e2:=hB.1;refine bU Tryz.func72 U Tryz.ntmps72 U fun w=>?_;by_cases hn:la.length=lb.length
 · refine dN 27 [0] ?_;refine fX (ι:=Nat×A3) (fun (i,Gx)=>([(17,.int .i64 (i:Int)),(16,Go.Value.int Go.IntKind.i64 (↑(List.length la):Int)),(15,Go.Value.slice a (List.length la) ca),(1,Go.Value.slice b (List.length lb) cb),(2,Go.Value.func (Go.Fn.func 73) #[] #[])],[])) (fun (i,Gx)=>Gx) (fun (i,Gx)=>i≤la.length∧za.take i=zb.take i∧G.le Gx) (fun (i,Gx)=>la.length - i) ((0,G)) (⟨aS _,U,cC _⟩) U ⟨U,U,U,U,U,I8⟩ I8 fun ⟨i,Gx⟩=>fun hk=>?_;obtain ⟨hi,hz,hgx⟩:=hk;replace ha:=ha.up hgx;replace hb:=hb.up hgx;replace hA:=hA.up hgx;replace hB:=hB.up hgx;rcases aK i la.length with hia | hia
   · have hx9:=hA.at (k:=(i:Int)) uJ;have hy9:=hB.at (m:=(i:Int)) uJ;have hx5:=aP (jG hx9 (ba.at _)) hm;have hy5:=aP (F4.len hy9 (bb.at _)) hk2;refine aL 14 [1] ?_;refine aU U (jH (α:=IV) T.sl39 U U uK uJ) ?_;refine aU U (gB T.agg89 U (jV uK uJ) U) ?_;refine bB 0 U T.zero89 fun b1=>?_;refine aN 8 [0] ?_;refine aU U (jH (α:=IV) T.sl45 U U uK uJ) ?_;refine aU U (gB T.agg93 U (jV uK uJ) U) ?_;refine bB 1 U T.zero93 fun b2=>?_;refine aN 8 [1,0,1] ?_;refine fM (fst:=[]) (cap:=[]) 2 U T.fn73 U U (c73 _ _ _ _ _ hx9 hy9 hx5 hy5) (vA I8) fun v1 G1 Ho1 hle1 hp=>?_;obtain ⟨rfl,rfl⟩:=hp;replace ha:=ha.up hle1;replace hb:=hb.up hle1;replace hA:=hA.up hle1;replace hB:=hB.up hle1;replace hx9:=hx9.up hle1;replace hy9:=hy9.up hle1;refine aU U (gF U) ?_;refine bY 2 [] ?_;refine jF U (fun hc1=>?_) fun hc1=>?_;refine cJ 11 [] ?_;refine cZ ?_;rotate_left;refine cJ 7 [] ?_;rotate_left
     · exact ⟨by rw [cM (fun h=>hc1 (by rw [h]))],U⟩
     refine eK ((i+1,G1)) ?_ ?_ U ⟨U,U,U,U,U,I8⟩ I8
     · exact ⟨by omega,Ut hz uJ uJ (jY.1 hc1),bH hgx hle1⟩
     show la.length - (i+1)<la.length - i;omega
   have hii:i=la.length:=uJ;subst hii;rw [eQ uJ,eQ uJ] at hz;refine cJ 18 [0] ?_;refine cZ ?_;exact ⟨by rw [cX hz],U⟩
 have hne:za≠zb:=fun h=>hn (by rw [e1,e2,h]);refine cJ 23 [1] ?_;refine cZ ?_;exact ⟨by rw [cM hne],U⟩
theorem c22 (G:A3) (a b:Option Addr) (ca cb:Nat) (la lb:List IV) (za zb:List Int) (ha:Arr G a la) (hb:Arr G b lb) (hA:A8 G la za) (hB:D1 G lb zb) (h1:la.length≤1048576) (m k:Nat) (hm:m≤1073741824) (hk2:k≤536870912) (ba:Below m za) (bb:Go.Sl.Below k zb) :
 Does Tryz.prog 22 [.slice a la.length ca,.slice b lb.length cb] G [] (fun v G' Ho=>v=.bool (decide (za=zb))∧Ho=[]):=by
 refine bU Tryz.func22 U Tryz.ntmps22 U fun w=>?_;refine aL 9 [] ?_;refine cQ 0 U (c72 _ _ _ _ _ _ _ za zb ha hb hA hB h1 m k hm hk2 ba bb) fun v1 G1 Ho1 hle1 hp=>?_;obtain ⟨rfl,rfl⟩:=hp;replace ha:=ha.up hle1;replace hb:=hb.up hle1;replace hA:=hA.up hle1;replace hB:=hB.up hle1;refine bA 4 [] ?_;refine cZ ?_;exact ⟨U,U⟩
end
end Go.Proofs.YtngphgeghfdjbaaGreatDoor
namespace Go.Sl
open Go
section
variable {P:Program} {ops:Array Oper} {rest:List Oper} {B:Bs} {e:B0} {D:List Deferred} {H:Hp} {G:A3} {K:Act→World→Prop}
 {ty:TypeId} {pos:String} {after:Array Edge} {d:Nat} {α:Type} [A2 α]
theorem FJ [Inhabited α] {T:TypeId} {x y:Operand} {k k':IntKind} {m:Int} {E bytes:Nat} {zs:List Value} (t:Nat) (hn:Nat.ble (d+1) B.n=true) (hT:uX P T E (A2.sz α)) (hE:B8 P E (A2.sz α) bytes zs)
 (hz:A2.enc (default:α)=zs) (hx:e.ev x=some (.int k 0)) (hy:e.ev y=some (.int k' m)) (h0:0≤m) (hb:bytes*m≤281474976710656∧m≤maxLen)
 (h:∀ b,A5 (some ⟨b,0,none⟩) m.toNat ([]:List α) (uT (List.replicate m.toNat (default:α)))→
  Wl P ops rest B ⟨(d,.slice (some ⟨b,0,none⟩) ([]:List α).length m.toNat) :: e,D,(t,some b,Row E ([]:List α) (uT (List.replicate m.toNat (default:α)))) :: H,G⟩ K) :
 Wl P ops (⟨some d,.makeSlice T x y,ty,pos,after,none⟩ :: rest) B ⟨e,D,H,G⟩ K:=by
 obtain ⟨i,z,hi,hz1,hz2,hs,hby,hzl,hsz⟩:=hE;have hr:(List.replicate m.toNat (default:α)).length=m.toNat:=vL;have hm:m.toNat≤maxLen:=uJ;refine oA (v:=fun b=>.slice (some ⟨b,0,none⟩) ([]:List α).length m.toNat) t hn (fun a w hh=>?_) (fun b=>h b (.inr ⟨b,U,by rw [uV,hr];simp,aS _,hm⟩));have h1:=run_make (P:=P) w T E i z hT.1 hi hz1 k k' 0 m (sM _) h0 (by rw [hby];exact hb.1) (by simp only [maxLen] at hb;omega);have h2:madeCells z.cells (m.toNat*i.size)=(uT ([]:List α)++uT (List.replicate m.toNat (default:α))).toArray:=by rw [hz2,hs,Ub hz hsz];rfl
 rw [h2] at h1;simp only [execOp,hh.eval hx,hh.eval hy,Row];simp [h1]
end
end Go.Sl
namespace Go.Proofs.YtngphgeghfdjbaaGreatDoor
open Go Go.Sl
def zQ (xs:List Int) (m j:Nat):List Int:=(List.range m).map fun t=>xs[j*m+t]?.getD 0
def yQ (xs:List Int) (k m:Nat):List (List Int):=(List.range k).map (zQ xs m)
def Tf (xs:List Int) (k m t:Nat):List Int:=(List.range k).map fun j=>xs[j*m+t]?.getD 0
def xM (xs:List Int) (k m:Nat):List (List Int):=(List.range m).map (Tf xs k m)
def zV (xs:List Int) (k m:Nat) (q:R2):List Int:=(List.range m).map fun t=>ev (Tf xs k m t) q.a q.b
theorem Jp (xs:List Int) (k m t:Nat):(Tf xs k m t).length=k:=by unfold Tf;rw [aW,dO]
theorem Lq (xs:List Int) (m j:Nat):(zQ xs m j).length=m:=by unfold zQ;rw [aW,dO]
theorem Ao (xs:List Int) (k m:Nat) (q:R2):(zV xs k m q).length=m:=by unfold zV;rw [aW,dO]
theorem IG {xs:List Int} {k m t j:Nat} (hj:j<k):(Tf xs k m t)[j]?.getD 0=xs[j*m+t]?.getD 0:=by
 unfold Tf;rw [bJ,dP hj];rfl
theorem Dc {α:Type} (f:List Int→α) (xs:List Int) (k m:Nat):(xM xs k m).map f=(List.range m).map fun t=>f (Tf xs k m t):=by
 unfold xM;rw [gY];rfl
theorem yJ (xs:List Int) (k m:Nat):(xM xs k m).length=m:=by unfold xM;rw [aW,dO]
theorem SA {xs:List Int} {k m:Nat} {c:List Int} (h:c∈xM xs k m):c.length=k:=by
 unfold xM at h;obtain ⟨t,_,rfl⟩:=cV.1 h;exact Jp xs k m t
theorem Jq {p:PV} {k:Nat} {l:List R2} (hR:uY p=true) (h:xH p (k:Int) l) (xs:List Int) (m:Nat):vH p (yQ xs k m)=some (l.map (zV xs k m)):=by
 obtain ⟨h1,h2,h3,h4⟩:=h;rw [aH] at h4;have hf:Flat k (xW k):=fun r hr=>by
  unfold xW at hr;obtain ⟨i,hi,rfl⟩:=cV.1 hr;exact Ur k i
 have h5:=Mv (xM xs k m) hR (by rw [Hf,h1]) hf h4;have e1:(xW k).map (xF (xM xs k m))=yQ xs k m:=by
  unfold xW yQ;rw [gY];refine dI fun j hj=>?_;have hj':j<k:=oM.1 hj;show xF (xM xs k m) (wX k j)=zQ xs m j;unfold xF zQ;rw [Dc];refine dI fun t _=>?_;show Hk (Tf xs k m t) (wX k j)=_;unfold wX;have:=Pw (Tf xs k m t) j (by rw [Jp];exact hj');rw [Jp] at this;rw [this,IG hj']
 rw [e1,gY] at h5;rw [h5];congr 1;refine dI fun q _=>?_;show xF (xM xs k m) (yP q.a q.b k)=zV xs k m q;unfold xF zV;rw [Dc];refine dI fun t _=>?_;have:=Ya q.a q.b (Tf xs k m t);rw [Jp] at this;exact this
def MH (u v:List Int):List Int:=List.zipWith (·+·) u v
theorem BR {u v:List Int} (h:u.length=v.length):(MH u v).length=u.length:=by unfold MH;rw [jA,h,tO]
theorem IH (a b:Int):∀ (u v:List Int),u.length=v.length→ev (MH u v) a b=ev u a b+ev v a b
 | [],[],_=>rfl
 | c :: u,d :: v,h=>by
   have hl:u.length=v.length:=rO h;show (c+d)*b ^ (MH u v).length+a*ev (MH u v) a b=(c*b ^ u.length+a*ev u a b)+(d*b ^ v.length+a*ev v a b);rw [IH a b u v hl,BR hl,hl,bQ,kE];omega
def Tg (X Y:List (List Int)) (n k:Nat) (i:Nat) (w:List (List Int)):Nat→List (List Int)
 | 0=>w
 | j+1=>(Tg X Y n k i w j).set (i+j) (MH ((Tg X Y n k i w j)[i+j]?.getD []) (wM (X[i]?.getD []) (Y[j]?.getD []) n k))
def Fj (X Y:List (List Int)) (n k N:Nat):Nat→List (List Int)
 | 0=>List.replicate N (List.replicate n 0)
 | i+1=>Tg X Y n k i (Fj X Y n k N i) Y.length
theorem Qg (X Y:List (List Int)) (n k i:Nat) (w:List (List Int)):∀ j,(Tg X Y n k i w j).length=w.length
 | 0=>rfl
 | j+1=>by
   show (List.set _ _ _).length=_;rw [aJ,Qg X Y n k i w j]
theorem Gb (X Y:List (List Int)) (n k N:Nat):∀ i,(Fj X Y n k N i).length=N
 | 0=>aC
 | i+1=>by
   show (Tg _ _ _ _ _ _ _).length=_;rw [Qg,Gb X Y n k N i]
theorem Qh {f:List Int→Int} {w:List (List Int)} {i:Nat} (hi:i<w.length):(w.map f)[i]?.getD 0=f (w[i]?.getD []):=by
 rw [bJ,aA hi];rfl
section
variable {X Y:List (List Int)} {n k k2:Nat} (hX:Flat k X) (hY:Flat k2 Y) (hn:k+k2=n+1)
include hX hY hn
theorem II (a b:Int) {N i:Nat} (hi:i<X.length):∀ (j:Nat) {w:List (List Int)},Flat n w→w.length=N→j≤Y.length→i+Y.length≤N→
 Flat n (Tg X Y n k i w j)∧(Tg X Y n k i w j).map (fun c=>ev c a b)=yE (X.map fun c=>ev c a b) (Y.map fun c=>ev c a b) i (w.map fun c=>ev c a b) j
 | 0,w,hw,hN,hj,hb=>⟨hw,U⟩
 | j+1,w,hw,hN,hj,hb=>by
   obtain ⟨h1,h2⟩:=II a b hi j hw hN uJ hb;have hl:=Qg X Y n k i w j;have hat:=zH h1 (show i+j<(Tg X Y n k i w j).length by omega);have hxl:=zH hX hi;have hyl:=zH hY (show j<Y.length by omega);have hp:(wM (X[i]?.getD []) (Y[j]?.getD []) n k).length=n:=yF _ _ _ _;refine ⟨flat_set h1 (by rw [BR uJ];exact hat),?_⟩;show ((Tg X Y n k i w j).set (i+j) _).map _=(yE _ _ i _ j).set (i+j) _;rw [List.map_set,h2];congr 1;rw [IH a b _ _ uJ,←h2,Qh (f:=fun c=>ev c a b) uJ,Qh (f:=fun c=>ev c a b) hi,Qh (f:=fun c=>ev c a b) (show j<Y.length by omega)];congr 1;have:=Xz (xs:=X[i]?.getD []) (ys:=Y[j]?.getD []) (n:=n) a b uJ;rw [hxl] at this;exact this
theorem Qi (a b:Int) {N:Nat} (hN:X.length+Y.length≤N+1):∀ i,i≤X.length→
 Flat n (Fj X Y n k N i)∧(Fj X Y n k N i).map (fun c=>ev c a b)=wM (X.map fun c=>ev c a b) (Y.map fun c=>ev c a b) N i
 | 0,_=>⟨fun r hr=>by rw [iH hr,aC],by
  show (List.replicate N (List.replicate n 0)).map _=List.replicate N 0;rw [List.map_replicate,Ps]⟩
 | i+1,hi=>by
   obtain ⟨h1,h2⟩:=Qi a b hN i uJ;obtain ⟨g1,g2⟩:=II hX hY hn a b (show i<X.length by omega) Y.length h1 (Gb X Y n k N i) (aG _) uJ;refine ⟨g1,?_⟩;show (Tg X Y n k i (Fj X Y n k N i) Y.length).map _=yE _ _ i _ (Y.map _).length;rw [g2,h2,aW]
end
def yG (W:List (List Int)) (e:Nat):List Int:=W.map fun c=>c[e]?.getD 0
theorem BS {z:PV} {l:List R2} (h:wF z l) {W:List (List Int)} (hW:Flat l.length W):vH z (l.map fun q=>W.map fun c=>ev c q.a q.b)=some ((List.range l.length).map (yG W)):=by
 obtain ⟨h0,h1,h2,h3⟩:=h;have hf:Flat l.length (yD l):=fun r hr=>by
  unfold yD at hr;obtain ⟨q,hq,rfl⟩:=cV.1 hr;exact Pr _ _ _
 have h5:=Mv W h0 (by unfold yD;rw [aW,h1]) hf h3;have e1:(yD l).map (xF W)=l.map fun q=>W.map fun c=>ev c q.a q.b:=by
  unfold yD;rw [gY];refine dI fun q _=>?_;show xF W (yP q.a q.b l.length)=_;unfold xF;refine dI fun c hc=>?_;rw [←hW c hc];exact Ya q.a q.b c
 have e2:((List.range l.length).map (wX l.length)).map (xF W)=(List.range l.length).map (yG W):=by
  rw [gY];refine dI fun e he=>?_;show xF W (wX l.length e)=yG W e;unfold xF yG;refine dI fun c hc=>?_;unfold wX;have:=Pw c e (by rw [hW c hc];exact oM.1 he);rw [hW c hc] at this;exact this
 rw [e1,e2] at h5;exact h5
def Cp (b:List Int) (off:Nat) (w:List Int):Nat→List Int
 | 0=>w
 | j+1=>(Cp b off w j).set (off+j) ((Cp b off w j)[off+j]?.getD 0+b[j]?.getD 0)
def vY (bs:List (List Int)) (m:Nat) (w:List Int):Nat→List Int
 | 0=>w
 | i+1=>Cp (bs[i]?.getD []) (i*m) (vY bs m w i) (bs[i]?.getD []).length
theorem Jr (b:List Int) (off:Nat) (w:List Int):∀ j,(Cp b off w j).length=w.length
 | 0=>rfl
 | j+1=>by
   show (List.set _ _ _).length=_;rw [aJ,Jr b off w j]
theorem zW (bs:List (List Int)) (m:Nat) (w:List Int):∀ i,(vY bs m w i).length=w.length
 | 0=>rfl
 | i+1=>by
   show (Cp _ _ _ _).length=_;rw [Jr,zW bs m w i]
theorem IJ {b w:List Int} {off:Nat} (x:Int) (h:off+b.length≤w.length):∀ j,j≤b.length→zN (Cp b off w j) x=zN w x+x ^ off*wS j (fun t=>b[t]?.getD 0*x ^ t)
 | 0,_=>by
   show zN w x=zN w x+x ^ off*0;rw [bV,cH]
 | j+1,hj=>by
   show zN ((Cp b off w j).set (off+j) _) x=zN w x+x ^ off*(wS j _+_);rw [IA x _ _ _ (by rw [Jr];omega),IJ x h j uJ,bQ,Int.pow_add,pH];congr 2;show b[j]?.getD 0*(x ^ off*x ^ j)=x ^ off*(b[j]?.getD 0*x ^ j)
   ac_rfl
theorem Vg {bs:List (List Int)} {m:Nat} {w:List Int} (x:Int) (h:∀ i:Nat,i<bs.length→i*m+(bs[i]?.getD []).length≤w.length):∀ i,i≤bs.length→zN (vY bs m w i) x=zN w x+wS i (fun e=>x ^ (e*m)*zN (bs[e]?.getD []) x)
 | 0,_=>(cH _).symm
 | i+1,hi=>by
   show zN (Cp _ _ (vY bs m w i) _) x=zN w x+(wS i _+_);rw [IJ x (by rw [zW];exact h i uJ) _ (aG _),Vg x h i uJ,←Jk,pH]
theorem Qj (x y:Int) {n:Nat}:∀ {W:List (List Int)},Flat n W→wS n (fun e=>y ^ e*zN (yG W e) x)=zN (W.map fun c=>zN c y) x
 | [],_=>Fz fun i _=>bV _
 | c :: W,h=>by
   have hc:c.length=n:=h c bM;have ih:=Qj x y (n:=n) (W:=W) fun r hr=>h r (bD _ hr);show wS n (fun e=>y ^ e*(c[e]?.getD 0+x*zN (yG W e) x))=zN c y+x*zN (W.map fun c=>zN c y) x;rw [←ih,Jk,hc,←Jj,←AZ];refine xG fun e _=>?_;rw [bQ];congr 1
   · exact cW _ _
   ac_rfl
theorem Bv (xs:List Int) (k m:Nat):Flat k (xM xs k m):=fun r hr=>SA hr
theorem BT {xs:List Int} {k m j:Nat} (hj:j<k):yG (xM xs k m) j=zQ xs m j:=by
 unfold yG zQ;rw [Dc];exact dI fun t _=>IG hj
theorem XJ (x:Int) (xs:List Int) (m j:Nat):zN (zQ xs m j) x=wS m (fun t=>xs[j*m+t]?.getD 0*x ^ t):=by
 rw [Jk,Lq];refine xG fun t ht=>?_;unfold zQ;rw [bJ,dP ht];rfl
theorem IK (x:Int) {xs:List Int} {k m:Nat} (h:xs.length≤k*m):zN ((xM xs k m).map fun c=>zN c (x ^ m)) x=zN xs x:=by
 rw [←Qj x (x ^ m) (Bv xs k m),XD x xs h,Mw];refine xG fun j hj=>?_;rw [BT hj,XJ,←Jj];refine xG fun t _=>?_;rw [Int.pow_add,eG j m,Int.pow_mul]
 ac_rfl
theorem SB (x:Int) {xs ys:List Int} {k1 k2 m n:Nat} (hk:k1+k2=n+1) (hm:1≤m) (h1:xs.length≤k1*m) (h2:ys.length≤k2*m) :
 wS n (fun e=>x ^ (e*m)*zN (yG (Fj (xM xs k1 m) (xM ys k2 m) n k1 (2*m - 1) m) e) x)=zN xs x*zN ys x:=by
 have hX:=Bv xs k1 m;have hY:=Bv ys k2 m;have hp:=Qi hX hY hk (x ^ m) 1 (N:=2*m - 1) (by rw [yJ,yJ];omega) m (by rw [yJ];exact aG _);have e0:∀ e:Nat,x ^ (e*m)=(x ^ m) ^ e:=fun e=>by rw [eG,Int.pow_mul]
 rw [xG (fun e _=>by rw [e0 e]),Qj x (x ^ m) hp.1];have e1:(fun c=>zN c (x ^ m))=fun c=>ev c (x ^ m) 1:=funext fun c=>(Fh _ c).symm;rw [e1,hp.2,←Fh x (wM _ _ _ _)];have h3:=Xz (xs:=(xM xs k1 m).map fun c=>ev c (x ^ m) 1) (ys:=(xM ys k2 m).map fun c=>ev c (x ^ m) 1) (n:=2*m - 1) x 1 (by rw [aW,aW,yJ,yJ];omega);rw [aW,yJ] at h3;rw [h3,Fh,Fh,←e1,IK x h1,IK x h2]
theorem FK {xs ys:List Int} {k1 k2 m n all:Nat} (hk:k1+k2=n+1) (hm:1≤m) (h1:xs.length≤k1*m) (h2:ys.length≤k2*m) (hx:1≤xs.length) (hy:1≤ys.length)
 (ha:xs.length+ys.length - 1≤all) (hb:∀ i:Nat,i<n→i*m+(2*m - 1)≤all) :
 vY ((List.range n).map (yG (Fj (xM xs k1 m) (xM ys k2 m) n k1 (2*m - 1) m))) m (List.replicate all 0) n=wM xs ys (xs.length+ys.length - 1) xs.length++List.replicate (all - (xs.length+ys.length - 1)) 0:=by
 have hlen:∀ e,(yG (Fj (xM xs k1 m) (xM ys k2 m) n k1 (2*m - 1) m) e).length=2*m - 1:=fun e=>by unfold yG;rw [aW,Gb]
 have hget:∀ e:Nat,e<n→((List.range n).map (yG (Fj (xM xs k1 m) (xM ys k2 m) n k1 (2*m - 1) m)))[e]?.getD []=yG (Fj (xM xs k1 m) (xM ys k2 m) n k1 (2*m - 1) m) e:=fun e he=>by
  rw [bJ,dP he];rfl
 refine IB _ _ (by rw [zW,aC,aI,yF,aC];omega) fun x _=>?_;rw [Vg x (fun i hi=>by
     rw [aW,dO] at hi;rw [hget i hi,hlen,aC];exact hb i hi) n (by rw [aW,dO];exact aG _),Lh,iM,xG (fun e he=>by rw [hget e he]),SB x hk hm h1 h2,Py,Lh,bV,cH]
 have h3:=Xz (xs:=xs) (ys:=ys) (n:=xs.length+ys.length - 1) x 1 uJ;rw [Fh,Fh,Fh] at h3;exact h3.symm
theorem BU {w:List Int} {k s:Nat} {c:Int} (hk:k<w.length):(w.set k c)[s]?.getD 0=if k=s then c else w[s]?.getD 0:=by
 by_cases h:k=s
 · subst h;rw [aM rfl,List.getElem?_set_self hk];rfl
 rw [aE h,sH h]
theorem Js {xs ys w:List Int} {i:Nat} (s:Nat):∀ j,i+j≤w.length→(yE xs ys i w j)[s]?.getD 0=w[s]?.getD 0+(if i≤s∧s - i<j then xs[i]?.getD 0*ys[s - i]?.getD 0 else 0)
 | 0,_=>by
   rw [aE (by omega),cH];rfl
 | j+1,h=>by
   show ((yE xs ys i w j).set (i+j) _)[s]?.getD 0=_;rw [BU (by rw [Cz];omega)];by_cases hs:i+j=s
   · subst hs;rw [aM rfl,Js (i+j) j uJ,aE (by omega),aM (by omega),iQ,cH]
   rw [aE hs,Js s j uJ];by_cases h1:i≤s∧s - i<j
   · rw [aM h1,aM (by omega)]
   rw [aE h1,aE (by omega)]
theorem Vh {xs ys:List Int} {n:Nat} (s:Nat):∀ i,i+ys.length≤n+1→s<n→(wM xs ys n i)[s]?.getD 0=wS i (fun i'=>if i'≤s∧s - i'<ys.length then xs[i']?.getD 0*ys[s - i']?.getD 0 else 0)
 | 0,_,hs=>by
   show (List.replicate n (0:Int))[s]?.getD 0=0;rw [lF,aM hs];rfl
 | i+1,h,hs=>by
   show (yE xs ys i (wM xs ys n i) ys.length)[s]?.getD 0=_;rw [Js s _ (by rw [yF];omega),Vh s i uJ hs];rfl
def zI (xs ys:List Int) (s:Nat):Nat→Int:=fun k=>wS k (fun i=>if i<xs.length∧s - i<ys.length then xs[i]?.getD 0*ys[s - i]?.getD 0 else 0)
theorem BV {f:Nat→Int} {a b:Nat} (h:a≤b) (hz:∀ i,a≤i→i<b→f i=0):wS b f=wS a f:=by
 obtain ⟨d,rfl⟩:=Nat.exists_eq_add_of_le h;rw [Da,Fz (n:=d) (fun i hi=>hz _ uJ uJ),cH]
theorem XK {xs ys:List Int} {s:Nat} (hx:1≤xs.length) (hy:1≤ys.length) (hs:s<xs.length+ys.length - 1):(wM xs ys (xs.length+ys.length - 1) xs.length)[s]?.getD 0=zI xs ys s (s+1):=by
 rw [Vh s _ uJ hs];unfold zI;have e1:wS (xs.length+s+1) (fun i'=>if i'<xs.length∧i'≤s∧s - i'<ys.length then xs[i']?.getD 0*ys[s - i']?.getD 0 else 0)=wS xs.length (fun i'=>if i'≤s∧s - i'<ys.length then xs[i']?.getD 0*ys[s - i']?.getD 0 else 0):=by
  rw [BV (a:=xs.length) uJ (fun i h1 h2=>aE (by omega))];refine xG fun i hi=>?_;by_cases h:i≤s∧s - i<ys.length
  · rw [aM ⟨hi,h⟩,aM h]
  rw [aE (by omega),aE h]
 have e2:wS (xs.length+s+1) (fun i'=>if i'<xs.length∧i'≤s∧s - i'<ys.length then xs[i']?.getD 0*ys[s - i']?.getD 0 else 0)=wS (s+1) (fun i=>if i<xs.length∧s - i<ys.length then xs[i]?.getD 0*ys[s - i]?.getD 0 else 0):=by
  rw [BV (a:=s+1) uJ (fun i h1 h2=>aE (by omega))];refine xG fun i hi=>?_;by_cases h:i<xs.length∧s - i<ys.length
  · rw [aM ⟨h.1,by omega,h.2⟩,aM h]
  rw [aE (by omega),aE h]
 rw [←e1,e2]
def FL (n k:Nat):Nat:=(n+k - 1) / k
def vZ (n1 n2 k1 k2:Nat):Nat:=max (FL n1 k1) (FL n2 k2)
def zA (n1 n2 k1 k2:Nat) (th:Int):Prop:=max th 1<(min n1 n2:Nat)∧vZ n1 n2 k1 k2<max n1 n2
instance (n1 n2 k1 k2:Nat) (th:Int):Decidable (zA n1 n2 k1 k2 th):=inferInstanceAs (Decidable (_∧_))
structure TL where
 lv:Nat
 ca:Nat
 pr:Nat
 st:Nat
def wP (k1 k2 n st:Nat) (th:Int) (n1 n2:Nat):TL:=
 if h:zA n1 n2 k1 k2 th then
  let t:=wP k1 k2 n st th (vZ n1 n2 k1 k2) (vZ n1 n2 k1 k2)
  ⟨1+n*t.lv,n+n*t.ca,n*t.pr,st+n*t.st⟩
 else ⟨0,0,n1*n2,0⟩
termination_by max n1 n2
decreasing_by
 have:=h.2;omega
theorem Qk {k1 k2 n st n1 n2:Nat} {th:Int} (h:zA n1 n2 k1 k2 th):wP k1 k2 n st th n1 n2=⟨1+n*(wP k1 k2 n st th (vZ n1 n2 k1 k2) (vZ n1 n2 k1 k2)).lv,n+n*(wP k1 k2 n st th (vZ n1 n2 k1 k2) (vZ n1 n2 k1 k2)).ca,n*(wP k1 k2 n st th (vZ n1 n2 k1 k2) (vZ n1 n2 k1 k2)).pr,st+n*(wP k1 k2 n st th (vZ n1 n2 k1 k2) (vZ n1 n2 k1 k2)).st⟩:=by
 rw [wP,dif_pos h]
theorem Lr {k1 k2 n st n1 n2:Nat} {th:Int} (h:¬zA n1 n2 k1 k2 th):wP k1 k2 n st th n1 n2=⟨0,0,n1*n2,0⟩:=by
 rw [wP,dif_neg h]
theorem ZN {n k:Nat} (hk:1≤k):n≤k*FL n k:=by
 unfold FL;have:=lY (n+k - 1) k;have:=iX (n+k - 1) (show 0<k by omega);omega
theorem ce {n k:Nat} (hk:1≤k) (hn:1≤n):1≤FL n k:=(Nat.le_div_iff_mul_le uJ).2 uJ
theorem MI {n1 n2 k1 k2:Nat} (h1:1≤k1) (h2:1≤k2):n1≤k1*vZ n1 n2 k1 k2∧n2≤k2*vZ n1 n2 k1 k2:=by
 have e1:=ZN (n:=n1) h1;have e2:=ZN (n:=n2) h2;unfold vZ;exact ⟨aP e1 (fD _ (Nat.le_max_left _ _)),aP e2 (fD _ (Nat.le_max_right _ _))⟩
theorem XL {n1 n2 k1 k2:Nat} (h1:1≤k1) (hn:1≤n1):1≤vZ n1 n2 k1 k2:=by
 have:=ce h1 hn;unfold vZ;omega
def wT (xs ys:List Int):List Int:=if xs.length=0∨ys.length=0 then [] else wM xs ys (xs.length+ys.length - 1) xs.length
theorem Gc {xs ys:List Int} (h:xs.length=0∨ys.length=0):wT xs ys=[]:=aM h
theorem Bw {xs ys:List Int} (hx:1≤xs.length) (hy:1≤ys.length):wT xs ys=wM xs ys (xs.length+ys.length - 1) xs.length:=aE (by omega)
theorem Dd {xs ys:List Int} (hx:1≤xs.length) (hy:1≤ys.length):(wT xs ys).length=xs.length+ys.length - 1:=by rw [Bw hx hy,yF]
def zJ (xs ys:List Int) (k1 k2 m n:Nat):List (List Int):=(List.range n).map (yG (Fj (xM xs k1 m) (xM ys k2 m) n k1 (2*m - 1) m))
def As (xs ys:List Int) (k1 k2 m:Nat) (l:List R2):List (List Int):=l.map fun q=>wT (zV xs k1 m q) (zV ys k2 m q)
theorem BW (xs ys:List Int) (k1 k2 m n:Nat):(zJ xs ys k1 k2 m n).length=n:=by unfold zJ;rw [aW,dO]
theorem BX {xs ys:List Int} {k1 k2 m n i:Nat} (hi:i<n):((zJ xs ys k1 k2 m n)[i]?.getD []).length=2*m - 1:=by
 unfold zJ;rw [bJ,dP hi];show (yG _ i).length=_;unfold yG;rw [aW,Gb]
theorem Vi {k1 k2:Nat} {l:List R2} {x y z:PV} (hU:vN (k1:Int) (k2:Int) l x y z=(0,0)) {xs ys:List Int} {m:Nat} (hm:1≤m) (h1:xs.length≤k1*m) (h2:ys.length≤k2*m) (hx:1≤xs.length) (hy:1≤ys.length) :
 vH x (yQ xs k1 m)=some (l.map (zV xs k1 m))∧vH y (yQ ys k2 m)=some (l.map (zV ys k2 m))∧vH z (As xs ys k1 k2 m l)=some (zJ xs ys k1 k2 m l.length)∧
 ∀ all,xs.length+ys.length - 1≤all→(∀ i:Nat,i<l.length→i*m+(2*m - 1)≤all)→vY (zJ xs ys k1 k2 m l.length) m (List.replicate all 0) l.length=wT xs ys++List.replicate (all - (xs.length+ys.length - 1)) 0:=by
 have hU2:(vN (k1:Int) (k2:Int) l x y z).2=0:=by rw [hU]
 obtain ⟨hW,hRx,hEx,hRy,hEy,hRz,hIz⟩:=Hl hU2;obtain ⟨hP1,hP2,hn,hRL⟩:=Al hW;have hk:k1+k2=l.length+1:=by have:=hP1.1;omega
 refine ⟨Jq hRx hEx xs m,Jq hRy hEy ys m,?_,fun all ha hb=>?_⟩
 · have hp:=fun a b=>Qi (Bv xs k1 m) (Bv ys k2 m) hk a b (N:=2*m - 1) (by rw [yJ,yJ];omega) m (by rw [yJ];exact aG _);have hb:=BS hIz (hp 0 0).1;unfold zJ;rw [←hb];congr 1;unfold As;refine dI fun q _=>?_;rw [(hp q.a q.b).2,Dc,Dc,Bw HD HD,Ao,Ao,show m+m - 1=2*m - 1 by omega];rfl
 rw [Bw hx hy];exact FK hk hm h1 h2 hx hy ha hb
section
attribute [local irreducible] uM uS pw pb uZ Te wT zI
theorem c20 (G:A3) (a:Option Addr) (c:Nat) (l:List Int) (ha:Arr G a l) (h1:l.length≤1048576) (hl:∀ x∈l,-9223372036854775808≤x∧x≤9223372036854775807) :
 Does Tryz.prog 20 [.slice a l.length c] G [] (fun v G' Ho=>∃ (b:Option Addr) (r:List IV) (c':Nat),v=.slice b r.length c'∧Arr G' b r∧A8 G' r l∧r.length≤c'∧Ho=[]):=by
 refine bU Tryz.func20 U Tryz.ntmps20 U fun w=>?_;refine gA 9 (Row 89 ([]:List IV) []) ?_;refine aL 10 [] ?_;refine FJ (α:=IV) 9 U T.sl39 T.el89 U U U uJ (by simp only [maxLen];omega) fun b1 ho9=>?_;refine bY 12 [] ?_;refine fX (ι:=Nat×A3×List IV×(Option Addr×Nat×List Value)) (fun (i,Gx,r,(o,d,j))=>([(12,.int .i64 (i:Int)),(3,.slice o r.length d),(11,Go.Value.int Go.IntKind.i64 (↑(List.length l):Int)),(10,Go.Value.slice a (List.length l) c),(2,Go.Value.slice Option.none 0 0)],[(9,o.map (·.block),Row 89 r j)])) (fun (i,Gx,r,(o,d,j))=>Gx) (fun (i,Gx,r,(o,d,j))=>i≤l.length∧G.le Gx∧r.length=i∧A8 Gx r (l.take i)∧A5 o d r j) (fun (i,Gx,r,(o,d,j))=>l.length - i) ((0,G,[],(some ⟨b1,0,none⟩,((l.length:Int)+1).toNat,uT (List.replicate ((l.length:Int)+1).toNat (default:IV))))) (⟨aS _,cC _,U,by rw [bX];exact A8.nil _,ho9⟩) U ⟨U,U,U,U,U,I8⟩ ⟨U,I8⟩ fun ⟨i,Gx,r,(o,d,j)⟩=>fun hk=>?_;obtain ⟨hi,hgx,hri,hbs,hob⟩:=hk;replace ha:=ha.up hgx;rcases aK i l.length with hil | hil
 · have hi9:-9223372036854775808≤l[(i:Int).toNat]?.getD default∧l[(i:Int).toNat]?.getD default≤9223372036854775807:=by
    rw [aH,aA hil];exact hl _ (dY hil)
   refine aL 13 [1] ?_;refine aU U (jH (α:=Int) T.sl29 U U uK uJ) ?_;refine aU U (cS T.one2 U (gZ uK uJ 0 U U)) ?_;refine aN 6 [] ?_;refine cQ 10 U (OC _ _ hi9) fun v1 G1 Ho1 hle1 hp=>?_;obtain ⟨ro1,rfl,hro1,rfl⟩:=hp;replace hbs:=hbs.up hle1;replace ha:=ha.up hle1;refine eV (α:=IV) 10 [(ro1)] U T.sl39 T.el89 U U U U U fun b2=>?_;refine fZ (α:=IV) 9 U T.sl39 T.el89 U U U Ei (fP 10 U) yH yH fun a1 c1 junk1 ho1=>?_;refine bA 8 [] ?_;refine eK ((i+1,G1,r++[ro1],(a1,c1,junk1))) ?_ ?_ U ⟨U,U,U,U,U,I8⟩ ⟨U,I8⟩
   · refine ⟨by omega,bH hgx hle1,by rw [aI,hri];rfl,?_,by assumption⟩;have e:l.take (i+1)=l.take i++[l[(i:Int).toNat]?.getD default]:=by
      rw [fW,aH,aA hil];rfl
     rw [e];exact A8.snoc hbs hro1
   show l.length - (i+1)<l.length - i;omega
 have hii:i=l.length:=uJ;subst hii;refine cJ 19 [0] ?_;refine dX 9 U hob fun G9 hle9 hA=>?_;refine cP (.inr U) (Ho:=[]) U (.tmp U) I8 ?_;refine ⟨o,r,d,U,hA,?_,hob.le,U⟩;rw [gX] at hbs;exact hbs.up hle9
theorem ou (G:A3) (a:Option Addr) (c:Nat) (l:List Int) (ha:Arr G a l) (h1:l.length≤1048576) (hl:∀ x∈l,-9223372036854775808≤x∧x≤9223372036854775807) :
 Does Tryz.prog 24 [.slice a l.length c] G [] (fun v G' Ho=>∃ (b:Option Addr) (r:List IV) (c':Nat),v=.slice b r.length c'∧Arr G' b r∧D1 G' r l∧r.length≤c'∧Ho=[]):=by
 refine bU Tryz.func24 U Tryz.ntmps24 U fun w=>?_;refine gA 9 (Row 93 ([]:List IV) []) ?_;refine dN 19 [] ?_;refine fX (ι:=Nat×A3×List IV×(Option Addr×Nat×List Value)) (fun (i,Gx,r,(o,d,j))=>([(8,.int .i64 (i:Int)),(3,.slice o r.length d),(7,Go.Value.int Go.IntKind.i64 (↑(List.length l):Int)),(6,Go.Value.slice a (List.length l) c),(2,Go.Value.slice Option.none 0 0)],[(9,o.map (·.block),Row 93 r j)])) (fun (i,Gx,r,(o,d,j))=>Gx) (fun (i,Gx,r,(o,d,j))=>i≤l.length∧G.le Gx∧r.length=i∧D1 Gx r (l.take i)∧A5 o d r j) (fun (i,Gx,r,(o,d,j))=>l.length - i) ((0,G,[],(none,0,[]))) (⟨aS _,cC _,U,by rw [bX];exact D1.nil _,fN⟩) U ⟨U,U,U,U,U,I8⟩ ⟨U,I8⟩ fun ⟨i,Gx,r,(o,d,j)⟩=>fun hk=>?_;obtain ⟨hi,hgx,hri,hbs,hob⟩:=hk;replace ha:=ha.up hgx;rcases aK i l.length with hil | hil
 · have hi9:-9223372036854775808≤l[(i:Int).toNat]?.getD default∧l[(i:Int).toNat]?.getD default≤9223372036854775807:=by
    rw [aH,aA hil];exact hl _ (dY hil)
   refine aL 13 [1] ?_;refine aU U (jH (α:=Int) T.sl29 U U uK uJ) ?_;refine aU U (cS T.one2 U (gZ uK uJ 0 U U)) ?_;refine aN 6 [] ?_;refine cQ 10 U (az _ _ hi9) fun v1 G1 Ho1 hle1 hp=>?_;obtain ⟨ro1,rfl,hro1,rfl⟩:=hp;replace hbs:=hbs.up hle1;replace ha:=ha.up hle1;refine eV (α:=IV) 10 [(ro1)] U T.sl45 T.el93 U U U U U fun b1=>?_;refine fZ (α:=IV) 9 U T.sl45 T.el93 U U U Ei (fP 10 U) yH yH fun a1 c1 junk1 ho1=>?_;refine bA 8 [] ?_;refine eK ((i+1,G1,r++[ro1],(a1,c1,junk1))) ?_ ?_ U ⟨U,U,U,U,U,I8⟩ ⟨U,I8⟩
   · refine ⟨by omega,bH hgx hle1,by rw [aI,hri];rfl,?_,by assumption⟩;have e:l.take (i+1)=l.take i++[l[(i:Int).toNat]?.getD default]:=by
      rw [fW,aH,aA hil];rfl
     rw [e];exact D1.snoc hbs hro1
   show l.length - (i+1)<l.length - i;omega
 have hii:i=l.length:=uJ;subst hii;refine cJ 19 [0] ?_;refine dX 9 U hob fun G9 hle9 hA=>?_;refine cP (.inr U) (Ho:=[]) U (.tmp U) I8 ?_;refine ⟨o,r,d,U,hA,?_,hob.le,U⟩;rw [gX] at hbs;exact hbs.up hle9
theorem Vj {xs ys:List Int} {s i:Nat} (h:i<xs.length∧s - i<ys.length):zI xs ys s (i+1)=zI xs ys s i+xs[i]?.getD 0*ys[s - i]?.getD 0:=by
 unfold zI;show wS i _+(if i<xs.length∧s - i<ys.length then xs[i]?.getD 0*ys[s - i]?.getD 0 else 0)=_;rw [aM h]
theorem Vk {xs ys:List Int} {s i:Nat} (h:¬(i<xs.length∧s - i<ys.length)):zI xs ys s (i+1)=zI xs ys s i:=by
 unfold zI;show wS i _+(if i<xs.length∧s - i<ys.length then xs[i]?.getD 0*ys[s - i]?.getD 0 else 0)=_;rw [aE h,cH]
theorem Vm (xs ys:List Int) (s:Nat):zI xs ys s 0=0:=by unfold zI;rfl
theorem Ql {x y:Int} (hx:x.natAbs≤2 ^ 63) (hy:y.natAbs≤2 ^ 63):(x*y).natAbs≤2 ^ 126:=by
 rw [qL];exact aP (gQ hx hy) uR
theorem De {xs:List Int} (h:∀ x∈xs,-9223372036854775808≤x∧x≤9223372036854775807) (i:Nat):(xs[i]?.getD 0).natAbs≤2 ^ 63:=by
 cases hx:xs[i]? with
 | none=>exact aS _
 | some x =>
   have:=h x (iR hx);show x.natAbs≤_;have e:(2 ^ 63:Nat)=9223372036854775808:=rfl;omega
theorem Qm {xs ys:List Int} (hx:∀ x∈xs,-9223372036854775808≤x∧x≤9223372036854775807) (hy:∀ x∈ys,-9223372036854775808≤x∧x≤9223372036854775807) (s:Nat):∀ i,(zI xs ys s i).natAbs≤i*2 ^ 126
 | 0=>by rw [Vm];exact aS _
 | i+1=>by
   have ih:=Qm hx hy s i;by_cases h:i<xs.length∧s - i<ys.length
   · rw [Vj h,rN];exact aP (tS _ _) (Nat.add_le_add ih (Ql (De hx _) (De hy _)))
   rw [Vk h,rN];exact aP ih (Nat.le_add_right _ _)
theorem IL {x:Int} {n k:Nat} (h:x.natAbs≤n) (hn:n<65536 ^ k):(x.natAbs:Int)<pw k:=by
 unfold pw;exact oN.2 (kM h hn)
theorem MJ {xs ys:List Int} {s:Nat} (hx:1≤xs.length) (hy:1≤ys.length) (hs:s<xs.length+ys.length - 1):(wT xs ys).take (s+1)=(wT xs ys).take s++[zI xs ys s (s+1)]:=by
 have hl:=Dd hx hy;rw [fW,aA uJ];congr 1;have h:=XK hx hy hs;rw [←Bw hx hy,aA uJ] at h;rw [←h];rfl
theorem c23 (G:A3) (a b:Option Addr) (ca cb:Nat) (la lb:List IV) (xs ys:List Int) (ha:Arr G a la) (hb:Arr G b lb) (hA:D1 G la xs) (hB:D1 G lb ys) (h1:la.length≤4096) (h2:lb.length≤4096)
 (hx:∀ x∈xs,-9223372036854775808≤x∧x≤9223372036854775807) (hy:∀ x∈ys,-9223372036854775808≤x∧x≤9223372036854775807) :
 Does Tryz.prog 23 [.slice a la.length ca,.slice b lb.length cb] G [] (fun v G' Ho=>∃ (o:Option Addr) (r:List IV) (c:Nat),v=.slice o r.length c∧Arr G' o r∧D1 G' r (wT xs ys)∧Ho=[]):=by
 have ex:=hA.1;have ey:=hB.1;refine bU Tryz.func23 U Tryz.ntmps23 U fun w=>?_;refine gA 9 (Row 93 ([]:List IV) []) ?_;by_cases h0:(la.length:Int)=0∨(lb.length:Int)=0
 · have hc:=Gc (xs:=xs) (ys:=ys) uJ;refine aL 12 [] ?_;apply fG 4 12 16 U;intro hg1;refine aF 7 [] ?_;exact kR 4 0 U U U U U;intro hg1;refine aF 4 [] ?_;exact kR 4 0 U U U U U;refine bA 10 [1] ?_;refine cP (.inr U) (Ho:=[]) U (.tmp U) I8 ?_;exact ⟨none,[],0,U,oT _,by rw [hc];exact D1.nil _,U⟩
 have hxl:1≤xs.length:=uJ;have hyl:1≤ys.length:=uJ;refine aL 12 [] ?_;refine pJ 12 U vG ?_;refine bY 24 [0] ?_;refine fX (ι:=Nat×A3×List IV×(Option Addr×Nat×List Value)) (fun (s,Gx,r,(o,d,j))=>([(6,.int .i64 (s:Int)),(5,.slice o r.length d),(4,Go.Value.slice Option.none 0 0),(0,Go.Value.slice a (List.length la) ca),(1,Go.Value.slice b (List.length lb) cb)],[(9,o.map (·.block),Row 93 r j)])) (fun (s,Gx,r,(o,d,j))=>Gx) (fun (s,Gx,r,(o,d,j))=>s≤xs.length+ys.length - 1∧G.le Gx∧r.length=s∧D1 Gx r ((wT xs ys).take s)∧A5 o d r j) (fun (s,Gx,r,(o,d,j))=>xs.length+ys.length - 1 - s) ((0,G,[],(none,0,[]))) (⟨aS _,cC _,U,by rw [bX];exact D1.nil _,fN⟩) U ⟨U,U,U,U,U,I8⟩ ⟨U,I8⟩ fun ⟨s,Gx,r,(o,d,j)⟩=>fun hk=>?_;obtain ⟨hs,hgx,hrs,hbs,hob⟩:=hk;replace ha:=ha.up hgx;replace hb:=hb.up hgx;replace hA:=hA.up hgx;replace hB:=hB.up hgx;rcases (show s<xs.length+ys.length - 1∨s=xs.length+ys.length - 1 by omega) with hsl | hsl
 · refine aL 20 [1] ?_;refine aU U (fY (cs:=[_,_]) T.st93 U U U) ?_;refine bB 10 U T.zero93 fun b1=>?_;refine bY 10 [10] ?_;refine fX (ι:=Nat×A3×IV) (fun (i,Gy,x)=>([(8,.int .i64 (i:Int)),(7,.pointer (some ⟨b1,0,none⟩)),(6,Go.Value.int Go.IntKind.i64 (↑s:Int)),(5,Go.Value.slice o (List.length r) d),(4,Go.Value.slice Option.none 0 0),(0,Go.Value.slice a (List.length la) ca),(1,Go.Value.slice b (List.length lb) cb)],[(10,some b1,.cells (A2.enc x).toArray 93),(9,Option.map (fun x=>Go.Addr.block x) o,Go.Sl.Row (α:=Go.Sl.IV) 93 (r) (j))])) (fun (i,Gy,x)=>Gy) (fun (i,Gy,x)=>i≤s+1∧Gx.le Gy∧F4 Gy x (zI xs ys s i)) (fun (i,Gy,x)=>s+1 - i) ((0,Gx,⟨false,none,0,0⟩)) (⟨aS _,cC _,by rw [Vm];exact F4.zero _⟩) U ⟨U,U,U,U,U,U,U,I8⟩ ⟨U,U,I8⟩ fun ⟨i,Gy,x⟩=>fun hk=>?_;obtain ⟨hi,hgy,hz9⟩:=hk;replace ha:=ha.up hgy;replace hb:=hb.up hgy;replace hA:=hA.up hgy;replace hB:=hB.up hgy;replace hbs:=hbs.up hgy;rcases (show i<s+1∨i=s+1 by omega) with his | his
   · have hz5:x.n≤1073741824:=aP (F4.len (m:=9) hz9 (IL (Qm hx hy s i) (kM (dQ _ (show i≤8192 by omega)) uR))) uR;by_cases hc:(i:Int)<(la.length:Int)∧(s:Int) - (i:Int)<(lb.length:Int)
     · have hx9:=hA.at (m:=(i:Int)) uJ;have hy9:=hB.at (m:=(s:Int) - (i:Int)) uJ;have hx5:=aP (F4.len (m:=4) hx9 (IL (De hx _) uR)) (show 4≤536870912 by decide);have hy5:=aP (F4.len (m:=4) hy9 (IL (De hy _) uR)) (show 4≤536870912 by decide);have hp5:((xs[(i:Int).toNat]?.getD 0*ys[((s:Int) - (i:Int)).toNat]?.getD 0).natAbs:Int)<pw 9:=IL (Ql (De hx _) (De hy _)) uR;refine aL 20 [1] ?_;refine rX 37 U vG ?_;refine bY 16 [1] ?_;refine gV [9,10] [(10,13)] T.mixed U ?_;refine bO 0 [10] [10] ?_;refine bO 1 [] [] ?_;refine bO 2 [] [] ?_;refine eP 3 [] U (jH (α:=IV) T.sl45 U U uK uJ) ?_;refine eP 4 [] U (gB T.agg93 U (jV uK uJ) U) ?_;refine bO 5 [] [] ?_;refine bO 6 [] [] ?_;refine bO 7 [] [] ?_;refine bO 8 [] [] ?_;refine eP 9 [] U (jH (α:=IV) T.sl45 U U uK uJ) ?_;refine eP 10 [] U (gB T.agg93 U (jV uK uJ) U) ?_;refine fC 11 ?_;refine cQ 11 U (WR _ _ _ _ _ hx9 hy9 hx5 hy5) fun v1 G1 Ho1 hle1 hp=>?_;obtain ⟨pm1,rfl,hpm1,rfl⟩:=hp;replace hz9:=hz9.up hle1;replace ha:=ha.up hle1;replace hb:=hb.up hle1;replace hA:=hA.up hle1;replace hB:=hB.up hle1;replace hbs:=hbs.up hle1;replace hx9:=hx9.up hle1;replace hy9:=hy9.up hle1;refine dG ?_;refine fC 12 ?_;refine cQ 11 U (WQ _ _ _ _ _ hz9 uK hz5 (aP (F4.len (m:=9) uK hp5) uR)) fun v2 G2 Ho2 hle2 hp=>?_;obtain ⟨ps2,rfl,hps2,rfl⟩:=hp;replace hpm1:=hpm1.up hle2;replace hz9:=hz9.up hle2;replace ha:=ha.up hle2;replace hb:=hb.up hle2;replace hA:=hA.up hle2;replace hB:=hB.up hle2;replace hbs:=hbs.up hle2;replace hx9:=hx9.up hle2;replace hy9:=hy9.up hle2;refine dG ?_;refine fC 13 ?_;refine aF 1 [10] ?_;refine dG ?_;refine eI ?_;refine iN 7 [] ?_;refine eK ((i+1,G2,ps2)) ?_ ?_ U ⟨U,U,U,U,U,U,U,I8⟩ ⟨U,U,I8⟩
       · refine ⟨by omega,bH hgy (bH hle1 hle2),?_⟩;rw [Vj uJ];rw [show ((s:Int) - (i:Int)).toNat=s - i by omega,show (i:Int).toNat=i from aH i] at hps2;exact hps2
       show s+1 - (i+1)<s+1 - i;omega
     refine aL 20 [1] ?_;apply gE 7 37 44 U;intro hg1;refine aF 13 [] ?_;exact kR 7 0 U U U U U;intro hg1;refine aF 7 [] ?_;exact kR 7 0 U U U U U;refine bA 11 [0] ?_;refine eK ((i+1,Gy,x)) ?_ ?_ U ⟨U,U,U,U,U,U,U,I8⟩ ⟨U,U,I8⟩
     · exact ⟨by omega,hgy,by rw [Vk uJ];exact hz9⟩
     show s+1 - (i+1)<s+1 - i;omega
   subst his;refine aL 17 [0,10] ?_;refine eV (α:=IV) 11 [(x)] U T.sl45 T.el93 U U U U U fun b2=>?_;refine fZ (α:=IV) 9 U T.sl45 T.el93 U U U Ei (fP 11 U) yH yH fun a1 c1 junk1 ho1=>?_;refine bA 9 [] ?_;refine eK ((s+1,Gy,r++[x],(a1,c1,junk1))) ?_ ?_ U ⟨U,U,U,U,U,I8⟩ ⟨U,I8⟩
   · exact ⟨by omega,bH hgx hgy,by rw [aI,hrs];rfl,by rw [MJ hxl hyl hsl];exact D1.snoc hbs hz9,by assumption⟩
   show xs.length+ys.length - 1 - (s+1)<xs.length+ys.length - 1 - s;omega
 have hcl:=Dd hxl hyl;rw [eQ uJ] at hbs;refine cJ 26 [0] ?_;refine dX 9 U hob fun G9 hle9 hA9=>?_;refine cP (.inr U) (Ho:=[]) U (.tmp U) I8 ?_;exact ⟨o,r,d,U,hA9,hbs.up hle9,U⟩
end
def Cc (k1 k2:Nat) (th:Int) (n1 n2:Nat):Nat:=
 if h:zA n1 n2 k1 k2 th then Cc k1 k2 th (vZ n1 n2 k1 k2) (vZ n1 n2 k1 k2)+1 else 0
termination_by max n1 n2
decreasing_by
 have:=h.2;omega
theorem Gd {k1 k2 n1 n2:Nat} {th:Int} (h:zA n1 n2 k1 k2 th):Cc k1 k2 th n1 n2=Cc k1 k2 th (vZ n1 n2 k1 k2) (vZ n1 n2 k1 k2)+1:=by rw [Cc,dif_pos h]
theorem zK {k1 k2 n1 n2:Nat} {th:Int} (h:¬zA n1 n2 k1 k2 th):Cc k1 k2 th n1 n2=0:=by rw [Cc,dif_neg h]
theorem Yf (n:Nat):FL n 1=n:=by unfold FL;rw [Nat.div_one];omega
theorem IM {n k N:Nat} (hk:2≤k) (h:n≤2*N):FL n k≤N:=by
 unfold FL;refine Nat.le_of_lt_succ ((eY uJ).2 ?_);have h1:(N+1)*2≤(N+1)*k:=fD _ hk;have h2:(N+1)*k=N*k+k:=nP N k;have h3:N*2≤N*k:=fD _ hk;show n+k - 1<(N+1)*k;omega
theorem IN {k1 k2:Nat} (h1:1≤k1) (h2:1≤k2) (h:k1=1∨k2=1) (th:Int) (n:Nat):Cc k1 k2 th n n=0:=zK fun g=>by
 have:=g.2;unfold vZ at this;rcases h with rfl | rfl
 · rw [Yf] at this;omega
 rw [Yf n] at this;omega
theorem IP {k1 k2:Nat} (h1:2≤k1) (h2:2≤k2) (th:Int):∀ (j n1 n2:Nat),max n1 n2≤2 ^ j→Cc k1 k2 th n1 n2≤j
 | 0,n1,n2,h=>by
   rw [zK fun g=>by
    have:=g.1;rw [iK] at h;omega]
   exact aG _
 | j+1,n1,n2,h=>by
   by_cases g:zA n1 n2 k1 k2 th
   · rw [Gd g];have hp:2 ^ (j+1)=2*2 ^ j:=by rw [dM,eG]
     have e1:=IM (n:=n1) (N:=2 ^ j) h1 uJ;have e2:=IM (n:=n2) (N:=2 ^ j) h2 uJ;have:=IP h1 h2 th j (vZ n1 n2 k1 k2) (vZ n1 n2 k1 k2) (by unfold vZ;omega);omega
   rw [zK g];omega
theorem cf {k1 k2:Nat} (h1:1≤k1) (h2:1≤k2) (th:Int) {j n1 n2:Nat} (hj:1≤j) (h:max n1 n2≤2 ^ j):Cc k1 k2 th n1 n2≤j:=by
 by_cases hk:2≤k1∧2≤k2
 · exact IP hk.1 hk.2 th j n1 n2 h
 by_cases g:zA n1 n2 k1 k2 th
 · rw [Gd g,IN h1 h2 uJ];omega
 rw [zK g];omega
theorem IQ {n c k N:Nat} (hc:1≤c) (hk:c≤k) (h:n≤c*N):FL n k≤N:=by
 unfold FL;refine Nat.le_of_lt_succ ((eY uJ).2 ?_);have h1:N*c≤N*k:=fD _ hk;have h2:(N+1)*k=N*k+k:=nP N k;have h3:c*N=N*c:=eG _ _;show n+k - 1<(N+1)*k;omega
theorem BY {c k1 k2:Nat} (hc:2≤c) (h1:c≤k1) (h2:c≤k2) (th:Int):∀ (j n1 n2:Nat),max n1 n2≤c ^ j→Cc k1 k2 th n1 n2≤j
 | 0,n1,n2,h=>by
   rw [zK fun g=>by
    have:=g.1;rw [iK] at h;omega]
   exact aG _
 | j+1,n1,n2,h=>by
   by_cases g:zA n1 n2 k1 k2 th
   · rw [Gd g];have hp:c ^ (j+1)=c*c ^ j:=by rw [dM,eG]
     have e1:=IQ (n:=n1) (N:=c ^ j) uJ h1 uJ;have e2:=IQ (n:=n2) (N:=c ^ j) uJ h2 uJ;have:=BY hc h1 h2 th j (vZ n1 n2 k1 k2) (vZ n1 n2 k1 k2) (by unfold vZ;omega);omega
   rw [zK g];omega
theorem XM {k1 k2 n n1 n2:Nat} {th:Int} (h1:1≤k1) (h1':k1≤8) (h2:1≤k2) (h2':k2≤8) (hn:k1+k2=n+1) (hm:max n1 n2≤2048):n ^ Cc k1 k2 th n1 n2≤31381059609:=by
 have key:∀ c j N:Nat,2≤c→c≤k1→c≤k2→2048≤c ^ j→n≤N→1≤N→N ^ j≤31381059609→n ^ Cc k1 k2 th n1 n2≤31381059609:=fun c j N hc g1 g2 hj hN hN1 hb=>by
  have hd:=BY hc g1 g2 th j n1 n2 uJ;exact aP (aP (lA hN _) (eR hN1 hd)) hb
 rcases (show min k1 k2=1∨min k1 k2=2∨min k1 k2=3∨min k1 k2=4∨min k1 k2=5∨min k1 k2=6∨min k1 k2=7∨min k1 k2=8 by omega) with h | h | h | h | h | h | h | h
 · have hd:Cc k1 k2 th n1 n2≤1:=by
    by_cases g:zA n1 n2 k1 k2 th
    · rw [Gd g,IN h1 h2 uJ];exact aG _
    rw [zK g];omega
   have hle:n ^ Cc k1 k2 th n1 n2≤8 ^ 1:=aP (lA (show n≤8 by omega) _) (eR uJ hd);omega
 · exact key 2 11 9 uJ uJ uJ uR uJ uJ uR
 · exact key 3 7 10 uJ uJ uJ uR uJ uJ uR
 · exact key 4 6 11 uJ uJ uJ uR uJ uJ uR
 · exact key 5 5 12 uJ uJ uJ uR uJ uJ uR
 · exact key 6 5 13 uJ uJ uJ uR uJ uJ uR
 · exact key 7 4 14 uJ uJ uJ uR uJ uJ uR
 exact key 8 4 15 uJ uJ uJ uR uJ uJ uR
theorem Qn {k1 k2 n st:Nat} {th:Int} (hn:k1+k2=n+1) (h1:1≤k1) (h2:1≤k2):∀ (N n1 n2:Nat),max n1 n2≤N→
 (wP k1 k2 n st th n1 n2).lv+1≤n ^ Cc k1 k2 th n1 n2∧(wP k1 k2 n st th n1 n2).ca+2≤2*n ^ Cc k1 k2 th n1 n2∧(wP k1 k2 n st th n1 n2).st=st*(wP k1 k2 n st th n1 n2).lv∧(wP k1 k2 n st th n1 n2).pr≤n ^ Cc k1 k2 th n1 n2*(max n1 n2*max n1 n2)
 | N,n1,n2,hN=>by
   by_cases g:zA n1 n2 k1 k2 th
   · have hlt:=g.2;obtain ⟨N',rfl⟩:∃ N',N=N'+1:=⟨N - 1,by omega⟩
     have hn2:2≤n:=by
      refine Nat.le_of_not_lt fun hlt2=>?_;have e1:k1=1:=uJ;have e2:k2=1:=uJ;subst e1 e2;unfold vZ at hlt;rw [Yf,Yf] at hlt;omega
     obtain ⟨g1,g2,g3,g4⟩:=Qn (st:=st) (th:=th) hn h1 h2 N' (vZ n1 n2 k1 k2) (vZ n1 n2 k1 k2) uJ;rw [Qk g,Gd g,dM];generalize wP k1 k2 n st th (vZ n1 n2 k1 k2) (vZ n1 n2 k1 k2)=t at g1 g2 g3 g4;generalize n ^ Cc k1 k2 th (vZ n1 n2 k1 k2) (vZ n1 n2 k1 k2)=p at g1 g2 g4;refine ⟨?_,?_,?_,?_⟩
     · show 1+n*t.lv+1≤p*n;have:=fD n g1;rw [pM,jT] at this;rw [eG p n];omega
     · show n+n*t.ca+2≤2*(p*n);have:=fD n g2;rw [pM,show n*(2*p)=2*(p*n) by rw [eG p n];ac_rfl] at this;omega
     · show st+n*t.st=st*(1+n*t.lv);rw [g3,pM,jT,show n*(st*t.lv)=st*(n*t.lv) by ac_rfl]
     show n*t.pr≤p*n*(max n1 n2*max n1 n2);have e1:=fD n g4;rw [Nat.max_self] at e1;have e2:vZ n1 n2 k1 k2*vZ n1 n2 k1 k2≤max n1 n2*max n1 n2:=gQ uJ uJ;have e3:=fD (n*p) e2;rw [eG p n,pG n p (vZ n1 n2 k1 k2*_)] at *;omega
   rw [Lr g,zK g,iK];refine ⟨aG _,aG _,(Nat.mul_zero st).symm,?_⟩;show n1*n2≤1*(max n1 n2*max n1 n2);rw [oD];exact gQ uJ uJ
def H9 (X:Nat) (xs:List Int):Prop:=∀ k:Nat,(xs[k]?.getD 0).natAbs≤X
theorem Ls (n:Nat):H9 0 (List.replicate n 0):=fun k=>by
 rw [lF];split <;> exact aG _
theorem IR {xs ys w:List Int} {X Y M i:Nat} (hx:H9 X xs) (hy:H9 Y ys) (hw:H9 M w) {j:Nat} (h:i+j≤w.length):H9 (M+X*Y) (yE xs ys i w j):=fun s=>by
 rw [Js s j h];have h1:=hw s;split
 · have h2:(xs[i]?.getD 0*ys[s - i]?.getD 0).natAbs≤X*Y:=by rw [qL];exact gQ (hx i) (hy _)
   have:=tS (w[s]?.getD 0) (xs[i]?.getD 0*ys[s - i]?.getD 0);omega
 rw [cH];omega
theorem Qo {xs ys:List Int} {X Y n:Nat} (hx:H9 X xs) (hy:H9 Y ys):∀ i,i+ys.length≤n+1→H9 (i*(X*Y)) (wM xs ys n i)
 | 0,_=>by rw [jN];exact Ls n
 | i+1,h=>by
   rw [nP];exact IR hx hy (Qo hx hy i uJ) (by rw [yF];omega)
theorem wN {m:Nat} {zs:List Int} (h:Below m zs):H9 (4294967296 ^ m) zs:=fun k=>by
 have:=h.at k;unfold pb at this;omega
theorem Bb {m X:Nat} {zs:List Int} (h:H9 X zs) (hX:X<4294967296 ^ m):Below m zs:=fun z hz=>by
 obtain ⟨k,hk,rfl⟩:=mT.1 hz;have:=h k;rw [aA hk] at this;replace this:zs[k].natAbs≤X:=this;unfold pb;omega
theorem FM {xs ys:List Int} {m n i:Nat} (hx:Below m xs) (hy:Below m ys) (hi:i≤4096) (h:i+ys.length≤n+1):Below (2*m+1) (wM xs ys n i):=
 Bb (Qo (wN hx) (wN hy) i h) (by
  rw [dM,Nat.two_mul,kX,eG];exact mR uJ (pL (iP uR) (iP uR)))
theorem MK {xs ys:List Int} {m n i j:Nat} (hx:Below m xs) (hy:Below m ys) (hi:i≤4096) (h:i+ys.length≤n) (hj:j≤ys.length):Below (2*m+1) (yE xs ys i (wM xs ys n i) j):=
 Bb (IR (wN hx) (wN hy) (Qo (wN hx) (wN hy) i uJ) (by rw [yF];omega)) (by
  rw [dM,Nat.two_mul,kX,←nP,eG];exact mR uJ (pL (iP uR) (iP uR)))
theorem Qp {xs ys:List Int} {m:Nat} (hx:Below m xs) (hy:Below m ys) (h1:xs.length≤4096):Below (2*m+1) (wT xs ys):=by
 unfold wT;split
 · intro z hz;cases hz
 exact FM hx hy h1 uJ
theorem Yg {b w:List Int} {off:Nat} (s:Nat):∀ j,off+j≤w.length→(Cp b off w j)[s]?.getD 0=w[s]?.getD 0+(if off≤s∧s - off<j then b[s - off]?.getD 0 else 0)
 | 0,_=>by
   rw [aE (by omega),cH];rfl
 | j+1,h=>by
   show ((Cp b off w j).set (off+j) _)[s]?.getD 0=_;rw [BU (by rw [Jr];omega)];by_cases hs:off+j=s
   · subst hs;rw [aM rfl,Yg (off+j) j uJ,aE (by omega),aM (by omega),iQ,cH]
   rw [aE hs,Yg s j uJ];by_cases h1:off≤s∧s - off<j
   · rw [aM h1,aM (by omega)]
   rw [aE h1,aE (by omega)]
theorem BZ {b w:List Int} {X M off j:Nat} (hb:H9 X b) (hw:H9 M w) (h:off+j≤w.length):H9 (M+X) (Cp b off w j):=fun s=>by
 rw [Yg s j h];have h1:=hw s;split
 · have h2:=hb (s - off);have:=tS (w[s]?.getD 0) (b[s - off]?.getD 0);omega
 rw [cH];omega
theorem Hr {bs:List (List Int)} {w:List Int} {X m:Nat} (hb:∀ i:Nat,i<bs.length→H9 X (bs[i]?.getD [])) (h:∀ i:Nat,i<bs.length→i*m+(bs[i]?.getD []).length≤w.length) (hw:H9 0 w):∀ i,i≤bs.length→H9 (i*X) (vY bs m w i)
 | 0,_=>by rw [jN];exact hw
 | i+1,hi=>by
   rw [nP];exact BZ (hb i uJ) (Hr hb h hw i uJ) (by rw [zW];exact h i uJ)
theorem CA {bs:List (List Int)} {w:List Int} {k m i j:Nat} (hb:∀ i:Nat,i<bs.length→Below k (bs[i]?.getD [])) (h:∀ i:Nat,i<bs.length→i*m+(bs[i]?.getD []).length≤w.length) (hw:H9 0 w) (hl:bs.length≤4096) (hi:i<bs.length) (hj:j≤(bs[i]?.getD []).length) :
 Below (k+1) (Cp (bs[i]?.getD []) (i*m) (vY bs m w i) j):=
 Bb (BZ (wN (hb i hi)) (Hr (fun t ht=>wN (hb t ht)) h hw i uJ) (by rw [zW];have:=h i hi;omega)) (by
  rw [←nP,dM,eG];exact mR uJ (iP uR))
theorem FN {bs:List (List Int)} {w:List Int} {k m i:Nat} (hb:∀ i:Nat,i<bs.length→Below k (bs[i]?.getD [])) (h:∀ i:Nat,i<bs.length→i*m+(bs[i]?.getD []).length≤w.length) (hw:H9 0 w) (hl:bs.length≤4096) (hi:i≤bs.length):Below (k+1) (vY bs m w i):=
 Bb (Hr (fun t ht=>wN (hb t ht)) h hw i hi) (by
  rw [dM,eG];exact mR uJ (iP uR))
def Nd (cL cB D m:Nat):Nat:=2*m+2+D*(6*cL+3*cB+1)
theorem ML (cL cB m:Nat):Nd cL cB 0 m=2*m+2:=by unfold Nd;omega
theorem MM (cL cB D m:Nat):Nd cL cB (D+1) m=Nd cL cB D (m+3*cL)+3*cB+1:=by
 unfold Nd;rw [eB D 1,oD];omega
def TL.add (s:TL) (k:Nat) (t:TL):TL:=⟨s.lv+k*t.lv,s.ca+k*(t.ca+1),s.pr+k*t.pr,s.st+k*t.st⟩
theorem Vn {k1 k2 n st n1 n2:Nat} {th:Int} (h1:1≤k1) (h1':k1≤8) (h2:1≤k2) (h2':k2≤8) (hn:k1+k2=n+1) (hm:max n1 n2≤2048) (hst:st≤49152) :
 (wP k1 k2 n st th n1 n2).lv≤31381059609∧(wP k1 k2 n st th n1 n2).ca≤62762119218∧(wP k1 k2 n st th n1 n2).pr≤131621703842267136∧(wP k1 k2 n st th n1 n2).st≤1542441841852416:=by
 obtain ⟨g1,g2,g3,g4⟩:=Qn (st:=st) (th:=th) hn h1 h2 _ n1 n2 (aG _);have hp:=XM (th:=th) h1 h1' h2 h2' hn hm;generalize n ^ Cc k1 k2 th n1 n2=p at g1 g2 g4 hp;refine ⟨by omega,by omega,aP g4 (aP (gQ hp (gQ hm hm)) uR),?_⟩;rw [g3];exact aP (gQ hst (show (wP k1 k2 n st th n1 n2).lv≤31381059608 by omega)) uR
section
attribute [local irreducible] uM pb vJ uZ
theorem Lt {G:A3} {l:List IV} {zs:List Int} {r:IV} {z:Int} (h:A8 G l zs) (hr:B9 G r z):A8 G (l++[r]) (zs++[z]):=by
 have e1:=h.1;refine ⟨by rw [aI,aI,e1];rfl,fun i hi=>?_⟩;rw [aI,gJ] at hi;rcases aK i l.length with h3 | h3
 · rw [bC h3,bC uJ];exact h.2 i h3
 have h4:i=l.length:=uJ;subst h4;rw [cD (aG _),cD uJ,e1,iW];exact hr
def Vo (P:Nat→Int) (n:Nat):List Int:=(List.range n).map P
theorem XN (P:Nat→Int) (n:Nat):(Vo P n).length=n:=by unfold Vo;rw [aW,dO]
theorem Qq (P:Nat→Int) (n:Nat):Vo P (n+1)=Vo P n++[P n]:=by unfold Vo;rw [List.range_succ,iL];rfl
theorem ZO (G:A3) (a:Option Addr) (c:Nat) (xs:List IV) (g:Nat) (fst:List Value) (P:Nat→Int) (hg:wJ Tryz.prog g) (ha:Arr G a xs) (hl:xs.length≤1048576)
 (hf:∀ k:Nat,k<xs.length→∀ G',G.le G'→Does Tryz.prog g (fst++[.agg (A2.enc (xs[((k:Nat):Int).toNat]?.getD default)).toArray]++[]) G' [] (fun v G'' Ho=>∃ r:IV,v=.agg (A2.enc r).toArray∧B9 G'' r (P k)∧Ho=[])) :
 Does Tryz.prog 318 [.slice a xs.length c,.func (.func g) fst.toArray #[]] G [] (fun v G' Ho=>∃ (s:Option Addr) (r:List IV) (d:Nat),v=.slice s r.length d∧Arr G' s r∧r.length≤d∧A8 G' r (Vo P xs.length)∧Ho=[]):=by
 refine D0 Tryz.func318 Tryz.ntmps318 fun w=>?_;refine gA 9 (Row 89 ([]:List IV) []) ?_;refine dN 19 [] ?_;refine fX (ι:=Nat×A3×List IV×(Option Addr×Nat×List Value)) (fun (k,Gx,r,(o,d,j))=>([(10,.int .i64 (k:Int)),(5,.slice o r.length d),(9,.int .i64 (xs.length:Int)),(8,.slice a (List.length xs) c),(4,.slice none 0 0),(1,.func (Go.Fn.func g) (List.toArray fst) #[])],[(9,o.map (·.block),Row 89 r j)])) (fun (k,Gx,r,(o,d,j))=>Gx) (fun (k,Gx,r,(o,d,j))=>k≤xs.length∧G.le Gx∧r.length=k∧A8 Gx r (Vo P k)∧A5 o d r j) (fun (k,Gx,r,(o,d,j))=>xs.length - k) ((0,G,[],(none,0,[]))) (⟨aS _,cC _,U,⟨U,fun i h=>absurd h vL⟩,fN⟩) U ⟨U,U,U,U,U,U,I8⟩ ⟨U,I8⟩ fun ⟨k,Gx,r,(o,d,j)⟩=>fun hk=>?_;obtain ⟨hk1,hk2,hk3,hk4,hk5⟩:=hk;replace ha:=ha.up hk2;rcases aK k xs.length with hkl | hkl
 · refine aL 13 [1] ?_;refine fF (α:=IV) T.sl39 ?_;refine qF T.agg89 ?_;refine bB 10 U T.zero89 fun b1=>?_;refine aN 7 [10,10] ?_;refine fM (fst:=fst) (cap:=[]) 20 U hg U U (hf k hkl _ hk2) (vA I8) fun v1 G1 Ho1 hle1 hp=>?_;obtain ⟨r1,rfl,hr1,rfl⟩:=hp;refine eV (α:=IV) 11 [(r1)] U T.sl39 T.el89 U U U U U fun b2=>?_;refine qG (α:=IV) 9 T.sl39 T.el89 (fP 11 U) fun a1 c1 junk1 ho1=>?_;refine bA 8 [] ?_;refine dH 10 U (show _=Value.int .i64 ((k+1:Nat):Int) from U) ?_;refine eH ((k+1,G1,r++[r1],(a1,c1,junk1))) ?_ ?_
   · refine ⟨hkl,bH hk2 hle1,by rw [aI,hk3];rfl,?_,ho1⟩;rw [Qq];exact Lt (hk4.up hle1) hr1
   show xs.length - (k+1)<xs.length - k;omega
 have hkl:k=xs.length:=uJ;subst hkl;refine cJ 19 [0] ?_;refine dX 9 U hk5 fun G8 hle8 hA8=>?_;refine cZ ?_;exact ⟨o,r,d,U,hA8,hk5.le,hk4.up hle8,U⟩
theorem jr (G:A3) (a:Option Addr) (c:Nat) (xs:List IV) (g bk:Nat) (cap:List Value) (P:Nat→Int) (hg:wJ Tryz.prog g) (ha:Arr G a xs) (hl:xs.length≤1048576)
 (hf:∀ k:Nat,k<xs.length→∀ G',G.le G'→Does Tryz.prog g ([]++[.agg (A2.enc (xs[((k:Nat):Int).toNat]?.getD default)).toArray]++cap) G' [(0,some bk,.cells #[.int .i64 ((k:Int) - 1)] 3)] (fun v G'' Ho=>∃ r:IV,v=.agg (A2.enc r).toArray∧B9 G'' r (P k)∧Ho=[(0,some bk,.cells #[.int .i64 (((k+1:Nat):Int) - 1)] 3)])) :
 Does Tryz.prog 318 [.slice a xs.length c,.func (.func g) #[] cap.toArray] G [(0,some bk,.cells #[.int .i64 (-1)] 3)] (fun v G' Ho=>∃ (s:Option Addr) (r:List IV) (d:Nat),v=.slice s r.length d∧Arr G' s r∧r.length≤d∧A8 G' r (Vo P xs.length)∧Ho=[(0,some bk,.cells #[.int .i64 ((xs.length:Int) - 1)] 3)]):=by
 refine D0 Tryz.func318 Tryz.ntmps318 fun w=>?_;refine gA 9 (Row 89 ([]:List IV) []) ?_;refine dN 19 [] ?_;refine rZ 0 (.cells #[.int .i64 (((0:Nat):Int) - 1)] 3) U U ?_;refine fX (ι:=Nat×A3×List IV×(Option Addr×Nat×List Value)) (fun (k,Gx,r,(o,d,j))=>([(10,.int .i64 (k:Int)),(5,.slice o r.length d),(9,.int .i64 (xs.length:Int)),(8,.slice a (List.length xs) c),(4,.slice none 0 0),(1,.func (Go.Fn.func g) #[] (List.toArray cap))],[(0,some bk,.cells #[.int .i64 ((k:Int) - 1)] 3),(9,o.map (·.block),Row 89 r j)])) (fun (k,Gx,r,(o,d,j))=>Gx) (fun (k,Gx,r,(o,d,j))=>k≤xs.length∧G.le Gx∧r.length=k∧A8 Gx r (Vo P k)∧A5 o d r j) (fun (k,Gx,r,(o,d,j))=>xs.length - k) ((0,G,[],(none,0,[]))) (⟨aS _,cC _,U,⟨U,fun i h=>absurd h vL⟩,fN⟩) U ⟨U,U,U,U,U,U,I8⟩ ⟨U,U,I8⟩ fun ⟨k,Gx,r,(o,d,j)⟩=>fun hk=>?_;obtain ⟨hk1,hk2,hk3,hk4,hk5⟩:=hk;replace ha:=ha.up hk2;rcases aK k xs.length with hkl | hkl
 · refine aL 13 [1] ?_;refine fF (α:=IV) T.sl39 ?_;refine qF T.agg89 ?_;refine bB 10 U T.zero89 fun b1=>?_;refine aN 7 [10,10] ?_;refine fM (fst:=[]) (cap:=cap) 0 U hg U U (hf k hkl _ hk2) (vA ⟨U,I8⟩) fun v1 G1 Ho1 hle1 hp=>?_;obtain ⟨r1,rfl,hr1,rfl⟩:=hp;refine eV (α:=IV) 11 [(r1)] U T.sl39 T.el89 U U U U U fun b2=>?_;refine qG (α:=IV) 9 T.sl39 T.el89 (fP 11 U) fun a1 c1 junk1 ho1=>?_;refine bA 8 [] ?_;refine dH 10 U (show _=Value.int .i64 ((k+1:Nat):Int) from U) ?_;refine eH ((k+1,G1,r++[r1],(a1,c1,junk1))) ?_ ?_
   · refine ⟨hkl,bH hk2 hle1,by rw [aI,hk3];rfl,?_,ho1⟩;rw [Qq];exact Lt (hk4.up hle1) hr1
   show xs.length - (k+1)<xs.length - k;omega
 have hkl:k=xs.length:=uJ;subst hkl;refine cJ 19 [0] ?_;refine dX 9 U hk5 fun G8 hle8 hA8=>?_;refine cP (.inr U) (Ho:=[(0,some bk,.cells #[.int .i64 ((xs.length:Int) - 1)] 3)]) U (.tmp U) ⟨U,I8⟩ ?_;exact ⟨o,r,d,U,hA8,hk5.le,hk4.up hle8,U⟩
end
section
attribute [local irreducible] uM pb vJ uZ
theorem zX {G:A3} {b:Nat} {cs:List Value} {T:TypeId} {fz:Nat×Nat} (h:G b=some (.cells cs.toArray T fz)) (k:Nat) {v:Value} (hv:cs[k]?=some v):G.cell b k=some v:=by
 simp only [A3.cell,h];simpa using hv
theorem Yh (xs:List Int) (f:Int→Int):Vo (fun k=>f (xs[k]?.getD 0)) xs.length=xs.map f:=by
 unfold Vo;apply oZ
 · rw [aW,aW,dO]
 intro i h1 h2;rw [aW] at h2;rw [oY,qI,oY,aA h2];rfl
theorem IS (xs ys:List Int) (f:Int→Int→Int) (h:xs.length=ys.length):Vo (fun k=>f (xs[k]?.getD 0) (ys[k]?.getD 0)) xs.length=List.zipWith f xs ys:=by
 unfold Vo;apply oZ
 · rw [aW,dO,jA,h,tO]
 intro i h1 h2;rw [jA] at h2;rw [oY,qI,List.getElem_zipWith,aA (show i<xs.length by omega),aA (show i<ys.length by omega)];rfl
def Jt (G':A3) (v:Value) (zs:List Int):Prop:=∃ (s:Option Addr) (r:List IV) (d:Nat),v=.slice s r.length d∧Arr G' s r∧r.length≤d∧A8 G' r zs
theorem Ea {G:A3} {l:List IV} {xs:List Int} {m:Nat} (h:A8 G l xs) (hm:Below m xs) {k:Nat} (hk:k<l.length):(l[k]?.getD default).n≤m:=jG (h.2 k hk) (hm.at k)
theorem se (G:A3) (a:Option Addr) (c:Nat) (l:List IV) (xs:List Int) (m:Nat) (ha:Arr G a l) (hb:A8 G l xs) (hm:Below m xs) (hmm:m≤268435456) (hl:l.length≤1048576) :
 Does Tryz.prog 293 [.slice a l.length c] G [] (fun v G' Ho=>Jt G' v (xs.map fun x=>-x)∧Ho=[]):=by
 have hf:∀ k:Nat,k<l.length→∀ G',G.le G'→Does Tryz.prog 55 ([]++[.agg (A2.enc (l[(k:Int).toNat]?.getD default)).toArray]++[]) G' [] (fun v G'' Ho=>∃ r:IV,v=.agg (A2.enc r).toArray∧B9 G'' r (-(xs[k]?.getD 0))∧Ho=[]):=fun k hk G' hG=>by
  have h1:=Ea hb hm hk;exact (qg G' _ _ ((hb.2 k hk).up hG) uJ).mono fun v G'' Ho _ ⟨r,e1,e2,e3,e4⟩=>⟨r,e1,e2,e4⟩
 have h180:=ZO G a c l 55 [] (fun k=>-(xs[k]?.getD 0)) T.fn55 ha hl hf;rw [hb.1,Yh xs (fun x=>-x),←hb.1] at h180;refine D0 Tryz.func293 Tryz.ntmps293 fun w=>?_;refine aL 8 [] ?_;refine cQ 0 U (h180) fun v1 G1 Ho1 hle1 hp=>?_;obtain ⟨s1,r1,d1,rfl,hA1,hl81,hB1,rfl⟩:=hp;replace ha:=ha.up hle1;replace hb:=hb.up hle1;refine bA 4 [] ?_;refine cZ ?_;exact ⟨⟨_,_,_,U,hA1,hl81,hB1⟩,U⟩
theorem sf (G:A3) (bk bf bb h:Nat) (x:IV) (k:Nat) (a':Option Addr) (c':Nat) (ys:List IV) (R:Int) (hgh:wJ Tryz.prog h) (hy:Arr G a' ys) (hk:k<ys.length) (hkl:k≤1048576) (hf:G bf=some (.cells [.func (.func h) #[] #[]].toArray 361)) (hb:G bb=some (.cells [.slice a' ys.length c'].toArray 39))
 (hh:Does Tryz.prog h ([]++[.agg (A2.enc x).toArray,.agg (A2.enc (ys[((k:Nat):Int).toNat]?.getD default)).toArray]++[]) G [] (fun v G'' Ho=>∃ r:IV,v=.agg (A2.enc r).toArray∧B9 G'' r R∧Ho=[])) :
 Does Tryz.prog 335 [.agg (A2.enc x).toArray,.pointer (some ⟨bk,0,none⟩),.pointer (some ⟨bf,0,none⟩),.pointer (some ⟨bb,0,none⟩)] G [(0,some bk,.cells #[.int .i64 ((k:Int) - 1)] 3)]
  (fun v G' Ho=>∃ r:IV,v=.agg (A2.enc r).toArray∧B9 G' r R∧Ho=[(0,some bk,.cells #[.int .i64 (((k+1:Nat):Int) - 1)] 3)]):=by
 have hfc:=zX hf 0 U;have hbc:=zX hb 0 U;have e:(k:Int).toNat=(((k:Int) - 1)+1).toNat:=uJ;rw [e] at hh;refine D0 Tryz.func335 Tryz.ntmps335 fun w=>?_;refine aL 2 [] ?_;refine fK 1 fun b1=>?_;refine bB 2 U T.zero89 fun b2=>?_;refine bY 10 [0,0] ?_;refine gV [1,2,0] [(2,7),(0,6),(2,6),(1,6)] T.mixed U ?_;refine eP 0 [] U (cS T.one361 U uK) ?_;refine gS [[1,1]] ?_;refine eP 2 [] U (cS T.one39 U uK) ?_;refine fC 3 ?_;refine aF 1 [0] ?_;refine dG ?_;refine qN (α:=IV) 4 T.sl39 ?_;refine Gm.le 5 T.agg89 ?_;refine fC 6 ?_;refine fM (fst:=[]) (cap:=[]) 20 U hgh U U hh (vA I8) fun v1 G1 Ho1 hle1 hp=>?_;obtain ⟨r1,rfl,hr1,rfl⟩:=hp;refine eD 7 ?_;refine aF 1 [2] ?_;refine lC ?_;refine iN 2 [] ?_;refine jW 0 (.cells #[.int .i64 (((k+1:Nat):Int) - 1)] 3) U (by rw [show (((k+1:Nat):Int) - 1)=(k:Int) - 1+1 by omega];rfl) ?_;refine cP (.inr U) (Ho:=[(0,some bk,.cells #[.int .i64 (((k+1:Nat):Int) - 1)] 3)]) U (.agg 2 U U T.agg89) ⟨U,I8⟩ ?_;exact ⟨r1,U,hr1,U⟩
theorem js (G:A3) (h:Nat) (a a':Option Addr) (c c':Nat) (l l':List IV) (F:Nat→Int) (hgh:wJ Tryz.prog h) (ha:Arr G a l) (ha':Arr G a' l') (hlen:l.length=l'.length) (hl:l.length≤1048576)
 (hh:∀ k:Nat,k<l.length→∀ G',G.le G'→Does Tryz.prog h ([]++[.agg (A2.enc (l[((k:Nat):Int).toNat]?.getD default)).toArray,.agg (A2.enc (l'[((k:Nat):Int).toNat]?.getD default)).toArray]++[]) G' [] (fun v G'' Ho=>∃ r:IV,v=.agg (A2.enc r).toArray∧B9 G'' r (F k)∧Ho=[])) :
 Does Tryz.prog 319 [.slice a l.length c,.slice a' l'.length c',.func (.func h) #[] #[]] G [] (fun v G' Ho=>∃ (s:Option Addr) (r:List IV) (d:Nat),v=.tuple #[.slice s r.length d,.int .i64 0]∧Arr G' s r∧r.length≤d∧A8 G' r (Vo F l.length)∧Ho=[]):=by
 refine D0 Tryz.func319 Tryz.ntmps319 fun w=>?_;refine aL 2 [] ?_;refine fK 0 fun b1=>?_;refine fK 1 fun b2=>?_;refine aN 19 [0,0] ?_;refine bB 2 U T.zero3 fun b3=>?_;refine aN 6 [2] ?_;refine aT (jS U U) ?_;refine tX 1 U fun G1 hg1 hb1=>?_;refine tX 0 U fun G2 hg2 hb2=>?_;replace hb1:=hg2 _ _ hb1;have hG:=bH hg1 hg2;replace ha:=ha.up hG;replace ha':=ha'.up hG;refine oF 2 (.cells #[.int .i64 (-1)] 3) U U ?_;refine pF 2 U T.fn318 U (jr _ a c l 335 b3 [.pointer (some ⟨b3,0,none⟩),.pointer (some ⟨b2,0,none⟩),.pointer (some ⟨b1,0,none⟩)] F T.fn335 ha hl
  (fun k hk G' hG'=>sf G' b3 b2 b1 h _ k a' c' l' (F k) hgh (ha'.up hG') uJ uJ (hG' _ _ hb1) (hG' _ _ hb2) (hh k hk G' (bH hG hG')))) (vA ⟨U,I8⟩) (fun v1 G3 Ho1 hle1 hp=>?_)
 obtain ⟨s,r,d,rfl,hA,hd,hB,rfl⟩:=hp;refine bA 5 [] ?_;refine fU ?_;exact ⟨s,r,d,U,hA,hd,hB,U⟩
theorem sg (G:A3) (a a':Option Addr) (c c':Nat) (l l':List IV) (xs ys:List Int) (m:Nat) (ha:Arr G a l) (ha':Arr G a' l') (hb:A8 G l xs) (hb':A8 G l' ys) (hm:Below m xs) (hm':Below m ys) (hmm:m≤268435456) (hlen:l.length=l'.length) (hl:l.length≤1048576) :
 Does Tryz.prog 295 [.slice a l.length c,.slice a' l'.length c'] G [] (fun v G' Ho=>∃ (s:Option Addr) (r:List IV) (d:Nat),v=.tuple #[.slice s r.length d,.int .i64 0]∧Arr G' s r∧r.length≤d∧A8 G' r (List.zipWith (·+·) xs ys)∧Ho=[]):=by
 have h181:=js G 42 a a' c c' l l' (fun k=>xs[k]?.getD 0+ys[k]?.getD 0) T.fn42 ha ha' hlen hl (fun k hk G' hG=>by
  have h1:=Ea hb hm hk;have h2:=Ea hb' hm' (show k<l'.length by omega);exact gf G' _ _ _ _ ((hb.2 k hk).up hG) ((hb'.2 k uJ).up hG) Ob Ob)
 rw [hb.1,IS xs ys (·+·) (by rw [←hb.1,←hb'.1,hlen]),←hb.1] at h181;refine D0 Tryz.func295 Tryz.ntmps295 fun w=>?_;refine aL 10 [] ?_;refine cQ 0 U (h181) fun v1 G1 Ho1 hle1 hp=>?_;obtain ⟨s1,r1,d1,rfl,hA1,hl81,hB1,rfl⟩:=hp;replace ha:=ha.up hle1;replace ha':=ha'.up hle1;replace hb:=hb.up hle1;replace hb':=hb'.up hle1;refine bA 7 [] ?_;refine fU ?_;exact ⟨_,_,_,U,hA1,hl81,hB1,U⟩
theorem si (G:A3) (a a':Option Addr) (c c':Nat) (l l':List IV) (xs ys:List Int) (m:Nat) (ha:Arr G a l) (ha':Arr G a' l') (hb:A8 G l xs) (hb':A8 G l' ys) (hm:Below m xs) (hm':Below m ys) (hmm:m≤268435456) (hlen:l.length=l'.length) (hl:l.length≤1048576) :
 Does Tryz.prog 297 [.slice a l.length c,.slice a' l'.length c'] G [] (fun v G' Ho=>∃ (s:Option Addr) (r:List IV) (d:Nat),v=.tuple #[.slice s r.length d,.int .i64 0]∧Arr G' s r∧r.length≤d∧A8 G' r (List.zipWith (· - ·) xs ys)∧Ho=[]):=by
 have h181:=js G 159 a a' c c' l l' (fun k=>xs[k]?.getD 0 - ys[k]?.getD 0) T.fn159 ha ha' hlen hl (fun k hk G' hG=>by
  have h1:=Ea hb hm hk;have h2:=Ea hb' hm' (show k<l'.length by omega);exact aq G' _ _ _ _ ((hb.2 k hk).up hG) ((hb'.2 k uJ).up hG) Ob Ob)
 rw [hb.1,IS xs ys (· - ·) (by rw [←hb.1,←hb'.1,hlen]),←hb.1] at h181;refine D0 Tryz.func297 Tryz.ntmps297 fun w=>?_;refine aL 10 [] ?_;refine cQ 0 U (h181) fun v1 G1 Ho1 hle1 hp=>?_;obtain ⟨s1,r1,d1,rfl,hA1,hl81,hB1,rfl⟩:=hp;replace ha:=ha.up hle1;replace ha':=ha'.up hle1;replace hb:=hb.up hle1;replace hb':=hb'.up hle1;refine bA 7 [] ?_;refine fU ?_;exact ⟨_,_,_,U,hA1,hl81,hB1,U⟩
theorem sj (G:A3) (a:Option Addr) (c:Nat) (l:List IV) (xs:List Int) (y:IV) (z:Int) (m:Nat) (ha:Arr G a l) (hb:A8 G l xs) (hm:Below m xs) (hmm:m≤268435456) (hl:l.length≤1048576) (hy:B9 G y z) (hyn:y.n≤268435456) :
 Does Tryz.prog 298 [.slice a l.length c,.agg (A2.enc y).toArray] G [] (fun v G' Ho=>Jt G' v (xs.map fun x=>z*x)∧Ho=[]):=by
 have hf:∀ k:Nat,k<l.length→∀ G',G.le G'→Does Tryz.prog 65 ([.agg (A2.enc y).toArray]++[.agg (A2.enc (l[(k:Int).toNat]?.getD default)).toArray]++[]) G' [] (fun v G'' Ho=>∃ r:IV,v=.agg (A2.enc r).toArray∧B9 G'' r (z*xs[k]?.getD 0)∧Ho=[]):=fun k hk G' hG=>by
  have h1:=Ea hb hm hk;exact oq G' _ _ _ _ (hy.up hG) ((hb.2 k hk).up hG) uJ Ob
 have h180:=ZO G a c l 65 [.agg (A2.enc y).toArray] (fun k=>z*xs[k]?.getD 0) T.fn65 ha hl hf;rw [hb.1,Yh xs (fun x=>z*x),←hb.1] at h180;refine D0 Tryz.func298 Tryz.ntmps298 fun w=>?_;refine aL 2 [] ?_;refine fK 0 fun b1=>?_;refine aN 7 [0] ?_;refine aT (jS U U) ?_;refine cQ 1 U (h180) fun v1 G1 Ho1 hle1 hp=>?_;obtain ⟨s1,r1,d1,rfl,hA1,hl81,hB1,rfl⟩:=hp;replace ha:=ha.up hle1;replace hb:=hb.up hle1;replace hy:=hy.up hle1;refine bA 4 [] ?_;refine cZ ?_;exact ⟨⟨_,_,_,U,hA1,hl81,hB1⟩,U⟩
theorem XO (xs:List Int) (z:Int):Vo (fun k=>xs[k]?.getD 0 / z) xs.length=xs.map (· / z):=Yh xs (· / z)
theorem sk (G:A3) (a:Option Addr) (c:Nat) (l:List IV) (xs:List Int) (y:IV) (z:Int) (m:Nat) (ha:Arr G a l) (hb:A8 G l xs) (hm:Below m xs) (hmm:m≤268435456) (hl:l.length≤1048576) (hy:B9 G y z) (hyn:y.n≤268435456) (hy0:z≠0) :
 Does Tryz.prog 300 [.slice a l.length c,.agg (A2.enc y).toArray] G [] (fun v G' Ho=>((∀ i:Nat,i<xs.length→xs[i]?.getD 0 % z=0)→∃ (s:Option Addr) (r:List IV) (d:Nat),v=.tuple #[.slice s r.length d,.int .i64 0]∧Arr G' s r∧r.length≤d∧A8 G' r (xs.map (· / z)))∧
  (¬(∀ i:Nat,i<xs.length→xs[i]?.getD 0 % z=0)→v=.tuple #[.slice none 0 0,.int .i64 20])∧Ho=[]):=by
 have hxl:=hb.1;refine D0 Tryz.func300 Tryz.ntmps300 fun w=>?_;refine gA 9 (Row 89 ([]:List IV) []) ?_;have hz0:¬Jd z=0:=fun h=>hy0 (Pn.1 h);refine aL 2 [] ?_;refine fK 10 fun b1=>?_;refine aN 8 [10] ?_;refine dC U (AF _ y z hy (aP hyn uR)) ?_;refine bY 20 [0] ?_;refine fX (ι:=Nat×A3×List IV×(Option Addr×Nat×List Value)) (fun (k,Gx,r,(o,d,j))=>([(17,.int .i64 (k:Int)),(6,.slice o r.length d),(16,.int .i64 (l.length:Int)),(15,.slice a (List.length l) c),(3,.pointer (some ⟨b1,0,none⟩))],[(9,o.map (·.block),Row 89 r j),(10,some b1,.cells (List.toArray (A2.enc y)) 89)])) (fun (k,Gx,r,(o,d,j))=>Gx) (fun (k,Gx,r,(o,d,j))=>k≤l.length∧G.le Gx∧r.length=k∧A8 Gx r (Vo (fun k=>xs[k]?.getD 0 / z) k)∧A5 o d r j∧(∀ i:Nat,i<k→xs[i]?.getD 0 % z=0)) (fun (k,Gx,r,(o,d,j))=>l.length - k) ((0,G,[],(none,0,[]))) (⟨aS _,cC _,U,⟨U,fun i h=>absurd h vL⟩,fN,fun i h=>absurd h uJ⟩) U ⟨U,U,U,U,U,I8⟩ ⟨U,U,I8⟩ fun ⟨k,Gx,r,(o,d,j)⟩=>fun hk=>?_;obtain ⟨hk1,hk2,hk3,hk4,hk5,hk6⟩:=hk;replace ha:=ha.up hk2;replace hb:=hb.up hk2;replace hy:=hy.up hk2;rcases aK k l.length with hkl | hkl
 · have hx:=hb.2 k hkl;have hxn:(l[(k:Int).toNat]?.getD default).n≤268435456:=by rw [aH];exact aP (Ea hb hm hkl) hmm
   have hx:B9 Gx (l[(k:Int).toNat]?.getD default) (xs[k]?.getD 0):=by rw [aH];exact hx
   have hlt:((xs[k]?.getD 0 % z).natAbs:Int)<pb y.n:=by
    have e2:=EN (x:=xs[k]?.getD 0) hy0;have e3:=B9.lt hy;omega
   refine aL 13 [1] ?_;refine fF (α:=IV) T.sl39 ?_;refine qF T.agg89 ?_;refine bB 11 U T.zero89 fun b2=>?_;refine aN 7 [11,11,10] ?_;refine cQ 12 U (qh _ _ _ _ _ hx hy hxn hyn hy0) fun v1 G1 Ho1 hle1 hp=>?_;obtain ⟨q1,r1,rfl,hq1,hr1,rfl⟩:=hp;replace hk4:=hk4.up hle1;replace ha:=ha.up hle1;replace hb:=hb.up hle1;replace hy:=hy.up hle1;replace hx:=hx.up hle1;refine aF 4 [] ?_;refine bB 12 U T.zero89 fun b3=>?_;refine bB 13 U T.zero89 fun b4=>?_;refine aN 9 [12,13,13] ?_;refine dC U (AF _ r1 (xs[k]?.getD 0 % z) hr1 (aP (jG hr1 hlt) (aP hyn uR))) ?_;refine bY 3 [] ?_;refine hZ (fun hc1=>?_) fun hc1=>?_;refine cJ 13 [] ?_;rotate_left;refine aL 5 [12] ?_;refine eV (α:=IV) 14 [(q1)] U T.sl39 T.el89 U U U U U fun b5=>?_;refine qG (α:=IV) 9 T.sl39 T.el89 (fP 14 U) fun a1 c1 junk1 ho1=>?_;refine bA 8 [] ?_;rotate_left
   · refine fU ?_;have hno:¬(∀ i:Nat,i<xs.length→xs[i]?.getD 0 % z=0):=fun h=>hc1 (Pn.2 (h k uJ));exact ⟨fun h=>absurd h hno,fun _=>rfl,U⟩
   have hdz:xs[k]?.getD 0 % z=0:=Pn.1 (gC fun h=>hc1 h);refine dH 17 U (show _=Value.int .i64 ((k+1:Nat):Int) from U) ?_;refine eH ((k+1,_,r++[q1],(a1,c1,junk1))) ?_ ?_
   · refine ⟨hkl,bH hk2 hle1,by rw [aI,hk3];rfl,?_,ho1,fun i hi=>?_⟩
     · rw [Qq];exact Lt hk4 hq1
     rcases aK i k with h | h
     · exact hk6 i h
     have e:i=k:=uJ;rw [e];exact hdz
   show l.length - (k+1)<l.length - k;omega
 have hkl:k=l.length:=uJ;subst hkl;refine cJ 20 [0] ?_;refine dX 9 U hk5 fun G8 hle8 hA8=>?_;refine fU ?_;rw [hxl] at hk6;refine ⟨fun _=>⟨o,r,d,U,hA8,hk5.le,?_⟩,fun h=>absurd hk6 h,U⟩;rw [←XO,←hxl];exact hk4.up hle8
theorem sm (G:A3) (a a':Option Addr) (c c':Nat) (l l':List IV) (xs ys:List Int) (m:Nat) (ha:Arr G a l) (ha':Arr G a' l') (hb:A8 G l xs) (hb':A8 G l' ys) (hm:Below m xs) (hm':Below m ys) (hmm:m≤268435456) (hlen:l.length=l'.length) (hl:l.length≤1048576) :
 Does Tryz.prog 294 [.slice a l.length c,.slice a' l'.length c'] G [] (fun v G' Ho=>Jt G' v (List.zipWith (·+·) xs ys)∧Ho=[]):=by
 refine D0 Tryz.func294 Tryz.ntmps294 fun w=>?_;refine aL 9 [] ?_;refine cQ 0 U (sg _ a a' c c' l l' xs ys m ha ha' hb hb' hm hm' hmm hlen hl) fun v1 G1 Ho1 hle1 hp=>?_;obtain ⟨s1,r1,d1,rfl,hA1,hl81,hB1,rfl⟩:=hp;replace ha:=ha.up hle1;replace ha':=ha'.up hle1;replace hb:=hb.up hle1;replace hb':=hb'.up hle1;refine bA 14 [] ?_;refine cZ ?_;exact ⟨⟨_,_,_,U,hA1,hl81,hB1⟩,U⟩
theorem sn (G:A3) (a a':Option Addr) (c c':Nat) (l l':List IV) (xs ys:List Int) (m:Nat) (ha:Arr G a l) (ha':Arr G a' l') (hb:A8 G l xs) (hb':A8 G l' ys) (hm:Below m xs) (hm':Below m ys) (hmm:m≤268435456) (hlen:l.length=l'.length) (hl:l.length≤1048576) :
 Does Tryz.prog 296 [.slice a l.length c,.slice a' l'.length c'] G [] (fun v G' Ho=>Jt G' v (List.zipWith (· - ·) xs ys)∧Ho=[]):=by
 refine D0 Tryz.func296 Tryz.ntmps296 fun w=>?_;refine aL 9 [] ?_;refine cQ 0 U (si _ a a' c c' l l' xs ys m ha ha' hb hb' hm hm' hmm hlen hl) fun v1 G1 Ho1 hle1 hp=>?_;obtain ⟨s1,r1,d1,rfl,hA1,hl81,hB1,rfl⟩:=hp;replace ha:=ha.up hle1;replace ha':=ha'.up hle1;replace hb:=hb.up hle1;replace hb':=hb'.up hle1;refine bA 14 [] ?_;refine cZ ?_;exact ⟨⟨_,_,_,U,hA1,hl81,hB1⟩,U⟩
theorem so (G:A3) (a:Option Addr) (c:Nat) (l:List IV) (xs:List Int) (y:IV) (z:Int) (m:Nat) (ha:Arr G a l) (hb:A8 G l xs) (hm:Below m xs) (hmm:m≤268435456) (hl:l.length≤1048576) (hy:B9 G y z) (hyn:y.n≤268435456) (hy0:z≠0) :
 Does Tryz.prog 299 [.slice a l.length c,.agg (A2.enc y).toArray] G [] (fun v G' Ho=>((∀ i:Nat,i<xs.length→xs[i]?.getD 0 % z=0)→∃ (s:Option Addr) (r:List IV) (d:Nat),v=.tuple #[.slice s r.length d,.bool true]∧Arr G' s r∧r.length≤d∧A8 G' r (xs.map (· / z)))∧
  (¬(∀ i:Nat,i<xs.length→xs[i]?.getD 0 % z=0)→v=.tuple #[.slice none 0 0,.bool false])∧Ho=[]):=by
 have h:=sk G a c l xs y z m ha hb hm hmm hl hy hyn hy0;by_cases hd:∀ i:Nat,i<xs.length→xs[i]?.getD 0 % z=0
 · have h1:=h.mono fun v G' Ho _ ⟨p1,p2,p3⟩=>(⟨p1 hd,p3⟩:(∃ (s:Option Addr) (r:List IV) (d:Nat),v=Value.tuple #[.slice s r.length d,.int .i64 0]∧Arr G' s r∧r.length≤d∧A8 G' r (xs.map (· / z)))∧Ho=[])
   refine D0 Tryz.func299 Tryz.ntmps299 fun w=>?_;refine aL 2 [] ?_;refine fK 0 fun b1=>?_;refine aN 8 [0] ?_;refine cQ 1 U (h1) fun v1 G1 Ho1 hle1 hp=>?_;obtain ⟨⟨s1,r1,d1,rfl,hA1,hl81,hB1⟩,rfl⟩:=hp;replace ha:=ha.up hle1;replace hb:=hb.up hle1;replace hy:=hy.up hle1;refine bA 17 [] ?_;refine fU ?_;exact ⟨fun _=>⟨_,_,_,U,hA1,hl81,hB1⟩,fun h=>absurd hd h,U⟩
 have h1:=h.mono fun v G' Ho _ ⟨p1,p2,p3⟩=>(⟨p2 hd,p3⟩:v=Value.tuple #[.slice none 0 0,.int .i64 20]∧Ho=[])
 refine D0 Tryz.func299 Tryz.ntmps299 fun w=>?_;refine aL 2 [] ?_;refine fK 0 fun b1=>?_;refine aN 8 [0] ?_;refine cQ 1 U (h1) fun v1 G1 Ho1 hle1 hp=>?_;obtain ⟨rfl,rfl⟩:=hp;replace ha:=ha.up hle1;replace hb:=hb.up hle1;replace hy:=hy.up hle1;refine bA 17 [] ?_;refine fU ?_;exact ⟨fun h=>absurd h hd,fun _=>rfl,U⟩
def SC:Value:=.agg #[.func (.func 293) #[] #[],.func (.func 294) #[] #[],.func (.func 296) #[] #[],.func (.func 298) #[] #[],.func (.func 299) #[] #[]]
theorem sq (G:A3):Does Tryz.prog 251 [] G [] (fun v G' Ho=>v=SC∧G'=G∧Ho=[]):=by
 refine D0 Tryz.func251 Tryz.ntmps251 fun w=>?_;refine aL 2 [] ?_;refine bB 0 U T.zero352 fun b1=>?_;refine aN 4 [] ?_;refine aT (fY (cs:=[_,_,_,_,_]) T.st352 U U U) ?_;refine bA 4 [0] ?_;refine cP (.inr U) (Ho:=[]) U (.agg 0 U U T.agg352) I8 ?_;exact ⟨U,U,U⟩
end
end Go.Proofs.YtngphgeghfdjbaaGreatDoor

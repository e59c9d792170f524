/- The given functions of the print of ObservePoints: sorted at both types, putPoint, putInt. -/
import Derived.Test.YtehfommdgoffmaaQObh
import Derived.Test.YtehfommdgoffmaaQObp1
import Derived.Test.YtehfommdgoffmaaQObp2

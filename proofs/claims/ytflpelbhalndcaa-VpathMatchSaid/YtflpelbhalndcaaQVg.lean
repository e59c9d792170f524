/- The contracts that the printed texts of this seat take as given. -/
import Derived.Test.YtflpelbhalndcaaQVg3
import Derived.Test.YtflpelbhalndcaaQVg4
import Derived.Test.YtflpelbhalndcaaQVg6
import Derived.Test.YtflpelbhalndcaaQVg7
